/- Lemmas for ratioBounds, part 1. -/
import Derived.KernelRfl
import Derived.Test.YtmchncaiffbpaaaGreatDoorRows
import Derived.WalkKit
import Derived.ProofKit
import Derived.OpenShut
import Derived.Carry
set_option linter.all false
set_option maxHeartbeats 0
namespace Go.Proofs.YtmchncaiffbpaaaGreatDoor
open Go.ChangeShapes Go.WideShapes Go.ChangeAt Go.RowKit
theorem ZG:type_of% @if_neg:=@if_neg
theorem ZH:type_of% @if_pos:=@if_pos
theorem ZI:type_of% @List.Sublist.cons_cons:=@List.Sublist.cons_cons
theorem ZJ:type_of% @List.Sublist.cons:=@List.Sublist.cons
theorem ZK:type_of% @Nat.zero_le:=@Nat.zero_le
theorem ZL:type_of% @List.mem_of_getElem?:=@List.mem_of_getElem?
theorem ZM:type_of% @Nat.le_refl:=@Nat.le_refl
theorem ZN:type_of% @List.nil_append:=@List.nil_append
theorem ZO:type_of% @List.take_of_length_le:=@List.take_of_length_le
theorem ZP:type_of% @List.set_cons_zero:=@List.set_cons_zero
theorem ZQ:type_of% @List.mem_cons_self:=@List.mem_cons_self
theorem ZR:type_of% @List.cons_append:=@List.cons_append
theorem ZS:type_of% @List.length_append:=@List.length_append
theorem ZU:type_of% @List.mem_map:=@List.mem_map
theorem ZV:type_of% @List.getElem?_eq_some_iff:=@List.getElem?_eq_some_iff
theorem ZW:type_of% @List.getElem?_map:=@List.getElem?_map
theorem ZX:type_of% @decide_eq_true:=@decide_eq_true
theorem ZY:type_of% @List.length_map:=@List.length_map
theorem ZZ:type_of% @List.mem_cons:=@List.mem_cons
theorem Z0:type_of% @List.mem_cons_of_mem:=@List.mem_cons_of_mem
theorem Z1:type_of% @List.length_take:=@List.length_take
theorem Z2:type_of% @Nat.mul_comm:=@Nat.mul_comm
theorem Z3:type_of% @decide_eq_false:=@decide_eq_false
theorem Z4:type_of% @List.Sublist.slnil:=@List.Sublist.slnil
theorem Z5:type_of% @List.getElem?_eq_none:=@List.getElem?_eq_none
theorem Z6:type_of% @List.length_reverse:=@List.length_reverse
theorem Z7:type_of% @Bool.and_eq_true:=@Bool.and_eq_true
theorem Z8:type_of% @Nat.mul_one:=@Nat.mul_one
theorem Z9:type_of% @Nat.zero_add:=@Nat.zero_add
theorem aaa:type_of% @List.mem_singleton:=@List.mem_singleton
theorem aab:type_of% @Nat.mod_lt:=@Nat.mod_lt
theorem aac:type_of% @Nat.le_trans:=@Nat.le_trans
theorem aad:type_of% @decide_eq_true_eq:=@decide_eq_true_eq
theorem aae:type_of% @List.length_cons:=@List.length_cons
theorem aaf:type_of% @List.set_cons_succ:=@List.set_cons_succ
theorem aag:type_of% @Nat.pow_add:=@Nat.pow_add
theorem aah:type_of% @Nat.mul_le_mul_left:=@Nat.mul_le_mul_left
theorem aai:type_of% @List.all_eq_true:=@List.all_eq_true
theorem aaj:type_of% @List.map_cons:=@List.map_cons
theorem aak:type_of% @Nat.pow_pos:=@Nat.pow_pos
theorem aal:type_of% @List.append_nil:=@List.append_nil
theorem aam:type_of% @List.append_assoc:=@List.append_assoc
theorem aan:type_of% @List.sublist_cons_self:=@List.sublist_cons_self
theorem aao:type_of% @Nat.pow_le_pow_right:=@Nat.pow_le_pow_right
theorem aap:type_of% @Nat.lt_or_ge:=@Nat.lt_or_ge
theorem aaq:type_of% @Bool.false_or:=@Bool.false_or
theorem aar:type_of% @Nat.pow_succ:=@Nat.pow_succ
theorem aas:type_of% @Nat.mod_eq_of_lt:=@Nat.mod_eq_of_lt
theorem aat:type_of% @congrArg:=@congrArg
theorem aau:type_of% @Option.some.inj:=@Option.some.inj
theorem aav:type_of% @List.mem_append:=@List.mem_append
theorem aaw:type_of% @Nat.mul_add:=@Nat.mul_add
theorem aax:type_of% @Nat.pow_mul:=@Nat.pow_mul
theorem aay:type_of% @List.Sublist.refl:=@List.Sublist.refl
theorem aaz:type_of% @Nat.sub_self:=@Nat.sub_self
theorem aaA:type_of% @Int.natCast_mul:=@Int.natCast_mul
theorem aaB:type_of% @List.map_map:=@List.map_map
theorem aaC:type_of% @List.map_nil:=@List.map_nil
theorem aaD:type_of% @List.mem_append_right:=@List.mem_append_right
theorem aaE:type_of% @Nat.mul_assoc:=@Nat.mul_assoc
theorem aaF:type_of% @Nat.lt_of_lt_of_le:=@Nat.lt_of_lt_of_le
theorem aaG:type_of% @List.map_append:=@List.map_append
theorem aaH:type_of% @List.getElem?_reverse:=@List.getElem?_reverse
theorem aaI:type_of% @Nat.lt_of_le_of_lt:=@Nat.lt_of_le_of_lt
theorem aaJ:type_of% @List.nil_sublist:=@List.nil_sublist
theorem aaK:type_of% @List.getD_eq_getElem?_getD:=@List.getD_eq_getElem?_getD
theorem aaL:type_of% @List.take_append_drop:=@List.take_append_drop
theorem aaM:type_of% @List.ext_getElem?:=@List.ext_getElem?
theorem aaN:type_of% @Nat.div_eq_of_lt:=@Nat.div_eq_of_lt
theorem aaO:type_of% @List.not_mem_nil:=@List.not_mem_nil
theorem aaP:type_of% @List.getElem?_range:=@List.getElem?_range
theorem aaQ:type_of% @List.perm_middle:=@List.perm_middle
theorem aaR:type_of% @List.mem_range:=@List.mem_range
theorem aaS:type_of% @Nat.succ_mul:=@Nat.succ_mul
theorem aaT:type_of% @Nat.min_eq_left:=@Nat.min_eq_left
theorem aaU:type_of% @List.length_drop:=@List.length_drop
theorem aaV:type_of% @Nat.mul_le_mul_right:=@Nat.mul_le_mul_right
theorem aaW:type_of% @Nat.div_lt_iff_lt_mul:=@Nat.div_lt_iff_lt_mul
theorem aaX:type_of% @List.getElem?_set:=@List.getElem?_set
theorem aaY:type_of% @Nat.div_add_mod:=@Nat.div_add_mod
theorem aaZ:type_of% @List.length_replicate:=@List.length_replicate
theorem aa0:type_of% @List.getElem?_append_right:=@List.getElem?_append_right
theorem aa1:type_of% @Option.getD_some:=@Option.getD_some
theorem aa2:type_of% @Array.getD_eq_getD_getElem?:=@Array.getD_eq_getD_getElem?
theorem aa3:type_of% @Int.natCast_add:=@Int.natCast_add
theorem aa4:type_of% @List.mem_iff_getElem?:=@List.mem_iff_getElem?
theorem aa5:type_of% @List.mem_filterMap:=@List.mem_filterMap
theorem aa6:type_of% @List.getElem?_eq_getElem:=@List.getElem?_eq_getElem
theorem aa7:type_of% @List.take_zero:=@List.take_zero
theorem aa8:type_of% @Nat.add_zero:=@Nat.add_zero
theorem aa9:type_of% @Nat.div_div_eq_div_mul:=@Nat.div_div_eq_div_mul
theorem aba:type_of% @List.length_set:=@List.length_set
theorem abb:type_of% @Nat.mul_succ:=@Nat.mul_succ
theorem abc:type_of% @Int.toNat_natCast:=@Int.toNat_natCast
theorem abd:type_of% @List.any_eq_false:=@List.any_eq_false
theorem abe:type_of% @Nat.add_mul_div_left:=@Nat.add_mul_div_left
theorem abf:type_of% @List.getElem?_append_left:=@List.getElem?_append_left
theorem abg:type_of% @List.any_eq_true:=@List.any_eq_true
theorem abh:type_of% @Classical.not_not:=@Classical.not_not
theorem abi:type_of% @List.drop_eq_getElem_cons:=@List.drop_eq_getElem_cons
theorem abj:type_of% @List.map_congr_left:=@List.map_congr_left
theorem abk:type_of% @List.mem_append_left:=@List.mem_append_left
theorem abl:type_of% @List.eq_nil_of_length_eq_zero:=@List.eq_nil_of_length_eq_zero
theorem abm:type_of% @List.mem_filter:=@List.mem_filter
theorem abn:type_of% @Int.sign_eq_neg_one_of_neg:=@Int.sign_eq_neg_one_of_neg
theorem abo:type_of% @beq_iff_eq:=@beq_iff_eq
theorem abp:type_of% @Nat.eq_zero_or_pos:=@Nat.eq_zero_or_pos
theorem abq:type_of% @List.pairwise_cons:=@List.pairwise_cons
theorem abr:type_of% @List.map_set:=@List.map_set
theorem abt:type_of% @Int.sign_eq_one_of_pos:=@Int.sign_eq_one_of_pos
theorem abu:type_of% @Option.map_some:=@Option.map_some
theorem abv:type_of% @List.getElem?_drop:=@List.getElem?_drop
theorem abw:type_of% @List.mem_of_mem_take:=@List.mem_of_mem_take
theorem abx:type_of% @List.drop_of_length_le:=@List.drop_of_length_le
theorem aby:type_of% @of_decide_eq_true:=@of_decide_eq_true
theorem abz:type_of% @Nat.mul_le_mul:=@Nat.mul_le_mul
theorem abA:type_of% @Option.map_eq_some_iff:=@Option.map_eq_some_iff
theorem abB:type_of% @Option.some.injEq:=@Option.some.injEq
theorem abC:type_of% @List.getElem?_take:=@List.getElem?_take
theorem abD:type_of% @List.getElem?_toArray:=@List.getElem?_toArray
theorem abE:type_of% @Bool.and_eq_true_iff:=@Bool.and_eq_true_iff
theorem abF:type_of% @Nat.add_comm:=@Nat.add_comm
theorem abG:type_of% @List.nodup_cons:=@List.nodup_cons
theorem abH:type_of% @Int.natAbs_mul:=@Int.natAbs_mul
theorem abI:type_of% @List.mem_flatMap:=@List.mem_flatMap
theorem abJ:type_of% @Nat.div_le_self:=@Nat.div_le_self
theorem abK:type_of% @List.any_append:=@List.any_append
theorem abL:type_of% @List.filterMap_cons:=@List.filterMap_cons
theorem abM:type_of% @List.flatMap_append:=@List.flatMap_append
theorem abN:type_of% @Nat.div_one:=@Nat.div_one
theorem abO:type_of% @Nat.mul_zero:=@Nat.mul_zero
theorem abP:type_of% @List.set_append_right:=@List.set_append_right
theorem abQ:type_of% @List.range_succ:=@List.range_succ
theorem abR:type_of% @Option.bind_some:=@Option.bind_some
theorem abS:type_of% @Nat.one_mul:=@Nat.one_mul
theorem abT:type_of% @List.any_cons:=@List.any_cons
theorem abU:type_of% @Dyadic.zero_add:=@Dyadic.zero_add
theorem abV:type_of% @List.any_nil:=@List.any_nil
theorem abW:type_of% @Nat.add_mul_mod_self_left:=@Nat.add_mul_mod_self_left
theorem abX:type_of% @List.mem_reverse:=@List.mem_reverse
theorem abY:type_of% @Dyadic.add_zero:=@Dyadic.add_zero
theorem abZ:type_of% @List.foldl_cons:=@List.foldl_cons
theorem ab0:type_of% @List.drop_drop:=@List.drop_drop
theorem ab1:type_of% @Nat.add_mul:=@Nat.add_mul
theorem ab2:type_of% @List.getElem?_zipWith:=@List.getElem?_zipWith
theorem ab3:type_of% @Bool.or_eq_true:=@Bool.or_eq_true
theorem ab4:type_of% @Nat.zero_mul:=@Nat.zero_mul
theorem ab5:type_of% @Array.getElem?_eq_getElem:=@Array.getElem?_eq_getElem
theorem ab6:type_of% @List.drop_zero:=@List.drop_zero
theorem ab7:type_of% @Int.natAbs_pow:=@Int.natAbs_pow
theorem ab8:type_of% @Nat.mul_lt_mul_of_pos_right:=@Nat.mul_lt_mul_of_pos_right
theorem ab9:type_of% @Int.mul_neg:=@Int.mul_neg
theorem aca:type_of% @List.length_nil:=@List.length_nil
theorem acb:type_of% @List.map_singleton:=@List.map_singleton
theorem acd:type_of% @Dyadic.one_mul:=@Dyadic.one_mul
theorem ace:type_of% @Nat.mul_pos:=@Nat.mul_pos
theorem acf:type_of% @Nat.mul_left_comm:=@Nat.mul_left_comm
theorem acg:type_of% @List.flatMap_cons:=@List.flatMap_cons
theorem ach:type_of% @List.take_succ_cons:=@List.take_succ_cons
theorem aci:type_of% @Nat.pow_zero:=@Nat.pow_zero
theorem acj:type_of% @List.reverse_cons:=@List.reverse_cons
theorem ack:type_of% @Classical.byContradiction:=@Classical.byContradiction
theorem acm:type_of% @List.replicate_succ:=@List.replicate_succ
theorem acn:type_of% @Int.neg_neg:=@Int.neg_neg
theorem aco:type_of% @Array.ext':=@Array.ext'
theorem acp:type_of% @List.reverse_reverse:=@List.reverse_reverse
theorem acq:type_of% @Nat.mod_add_div:=@Nat.mod_add_div
theorem acr:type_of% @List.getElem?_cons_zero:=@List.getElem?_cons_zero
theorem acs:type_of% @List.map_drop:=@List.map_drop
theorem acu:type_of% @List.filter_append:=@List.filter_append
theorem acv:type_of% @List.sublist_append_left:=@List.sublist_append_left
theorem acw:type_of% @Int.natAbs_ediv_le_natAbs:=@Int.natAbs_ediv_le_natAbs
theorem acx:type_of% @List.perm_append_comm:=@List.perm_append_comm
theorem acy:type_of% @Int.mul_le_mul:=@Int.mul_le_mul
theorem acz:type_of% @Bool.not_true:=@Bool.not_true
theorem acA:type_of% @List.foldl_append:=@List.foldl_append
theorem acB:type_of% @List.getElem?_cons_succ:=@List.getElem?_cons_succ
theorem acC:type_of% @List.size_toArray:=@List.size_toArray
theorem acD:type_of% @Array.getElem?_eq_none:=@Array.getElem?_eq_none
theorem acE:type_of% @List.length_zipWith:=@List.length_zipWith
theorem acF:type_of% @Int.lt_trichotomy:=@Int.lt_trichotomy
theorem acG:type_of% @UInt8.toNat_inj:=@UInt8.toNat_inj
theorem acH:type_of% @Nat.le_mul_of_pos_left:=@Nat.le_mul_of_pos_left
theorem acI:type_of% @List.length_range:=@List.length_range
theorem acJ:type_of% @Bool.not_eq_true':=@Bool.not_eq_true'
theorem acK:type_of% @Bool.false_eq_true:=@Bool.false_eq_true
theorem acL:type_of% @Int.mul_comm:=@Int.mul_comm
theorem acM:type_of% @Nat.lt_of_not_le:=@Nat.lt_of_not_le
theorem acN:type_of% @Nat.le_of_lt:=@Nat.le_of_lt
theorem acO:type_of% @decide_eq_false_iff_not:=@decide_eq_false_iff_not
theorem acP:type_of% @UInt8.toNat_ofNat':=@UInt8.toNat_ofNat'
theorem acQ:type_of% @Bool.eq_false_iff:=@Bool.eq_false_iff
theorem acR:type_of% @List.map_id':=@List.map_id'
theorem acS:type_of% @Nat.add_assoc:=@Nat.add_assoc
theorem acT:type_of% @List.reverse_append:=@List.reverse_append
theorem acU:type_of% @List.getElem?_zip_eq_some:=@List.getElem?_zip_eq_some
theorem acV:type_of% @List.Pairwise.nil:=@List.Pairwise.nil
theorem acW:type_of% @List.map_toArray:=@List.map_toArray
theorem acX:type_of% @List.take_length:=@List.take_length
theorem acY:type_of% @List.countP_eq_length:=@List.countP_eq_length
theorem acZ:type_of% @Int.eq_ofNat_of_zero_le:=@Int.eq_ofNat_of_zero_le
theorem ac0:type_of% @Nat.le_of_not_lt:=@Nat.le_of_not_lt
theorem ac1:type_of% @List.replicate_zero:=@List.replicate_zero
theorem ac2:type_of% @Int.sign_eq_zero_iff_zero:=@Int.sign_eq_zero_iff_zero
theorem ac3:type_of% @List.set_eq_take_append_cons_drop:=@List.set_eq_take_append_cons_drop
theorem ac4:type_of% @Int.natCast_pow:=@Int.natCast_pow
theorem ac5:type_of% @Array.length_toList:=@Array.length_toList
theorem ac6:type_of% @List.length_pos_iff:=@List.length_pos_iff
theorem ac7:type_of% @List.length_finRange:=@List.length_finRange
theorem ac8:type_of% @Nat.not_lt_zero:=@Nat.not_lt_zero
theorem ac9:type_of% @Array.all_eq_true':=@Array.all_eq_true'
theorem ada:type_of% @Nat.mul_lt_mul'':=@Nat.mul_lt_mul''
theorem adb:type_of% @List.length_eq_zero_iff:=@List.length_eq_zero_iff
theorem ade:type_of% @Array.getElem?_eq_some_iff:=@Array.getElem?_eq_some_iff
theorem adf:type_of% @List.pairwise_singleton:=@List.pairwise_singleton
theorem adg:type_of% @List.getElem?_replicate:=@List.getElem?_replicate
theorem adh:type_of% @List.contains_iff_mem:=@List.contains_iff_mem
theorem adi:type_of% @Bool.and_eq_false_iff:=@Bool.and_eq_false_iff
theorem adj:type_of% @Nat.le_mul_of_pos_right:=@Nat.le_mul_of_pos_right
theorem adk:type_of% @Array.toList_setIfInBounds:=@Array.toList_setIfInBounds
theorem adl:type_of% @List.drop_eq_nil_of_le:=@List.drop_eq_nil_of_le
theorem adm:type_of% @List.countP_replicate:=@List.countP_replicate
theorem adn:type_of% @List.filterMap_append:=@List.filterMap_append
theorem ado:type_of% @List.mem_of_mem_drop:=@List.mem_of_mem_drop
def zL0:List Nat:=[4,6,7,8,9,10,11,12,13,14,15,16,17,18,19,20,21,22,23,24,25,26,27]
def zL1:List Nat:=[15,16,67,68,69,70,71,72,73,74,75,76,77,78,79,80,81,82,83,84,85]
def zL2:List Nat:=[16,18,102,103,104,105,106,107,108,109,110,111,112,113,114,115,116,117,118,119,120]
def zL3:List (List (Nat×Option Nat)):=[[(4,none)],[(21,some 0)],[(1,none)],[(23,some 2)],[(22,some 1),(24,some 3)],[(25,some 4)],[(26,some 5)],[(4,none),(27,some 6)],[(28,some 7),(27,some 6)],[(29,some 8),(27,some 6)],[(30,some 9),(27,some 6)],[(27,some 6),(31,some 10)],[(32,some 11)],[(4,none),(33,some 12)],[(34,some 13),(33,some 12)],[(35,some 14),(33,some 12)],[(4,none),(33,some 12)],[(37,some 16),(33,some 12)],[(36,some 15),(38,some 17),(33,some 12)],[(33,some 12),(39,some 18)],[(40,some 19)],[(3,none),(41,some 20)],[(42,some 21),(41,some 20)],[(43,some 22),(41,some 20)],[(1,none),(44,some 23)],[(45,some 24),(44,some 23)],[(3,none),(44,some 23)],[(47,some 26),(44,some 23)],[(46,some 25),(48,some 27),(44,some 23)],[(49,some 28),(44,some 23)],[(50,some 29),(44,some 23)],[(4,none),(44,some 23)],[(52,some 31),(44,some 23)]]
def zL4:List Nat:=[0,1,0,4,15,31,63,127,255,511,1023,2047,4095,8191,16383,32767,8191,73727,262143,524287,1048575,2097151,4194303,8388607,16777215,33554431,16777215,83886079,268435455,536870911,1073741823,16777215,2164260863,8589934591,17179869183,34359738367]
def zL5:List Nat:=[14,53,54,55,56,57,58,59,60,61,62,63,64,65,66,67,68,69]
theorem ZB {p:Prop} (h:p:=by omega):p:=h
theorem ZC {p:Prop} (h:p:=by decide):p:=h
theorem ZD {p:Prop} (h:p:=by kernel_rfl):p:=h
theorem DJ {P Q:Prop} (p:P) (h:P→Q:=by intro kQ;exact Fq (b:=4294967295) rfl rfl (by first|assumption|omega) (by first|assumption|omega) ZC kQ):Q:=h p
theorem tL {P Q:Prop} (p:P) (h:P→Q:=by intro kQ;exact np (s:=32) (m:=4294967296) rfl rfl ZC ZC ZC kQ):Q:=h p
theorem Iu {P Q:Prop} (p:P) (h:P→Q:=by intro kQ;exact np (s:=8) (m:=256) rfl rfl ZC ZC ZC kQ):Q:=h p
theorem lL {P Q:Prop} (p:P) (h:P→Q:=by intro kQ;exact Gj bj.out bj.out rfl (by first|assumption|omega) ZC kQ):Q:=h p
theorem GZ {P Q:Prop} (p:P) (h:P→Q:=by intro kQ;exact s9 (aN (cF (dP (eF (sr (mI (mI kQ)))))))):Q:=h p
theorem GY {P Q:Prop} (p:P) (h:P→Q:=by intro kQ;exact dt (k:=j) bj.out aC.size rfl rfl ZB ZB ZC kQ):Q:=h p
theorem ld {P Q:Prop} (p:P) (h:P→Q:=by intro kQ;exact bF aC.out rfl ((hr.ext hh.below).mX (by assumption)) ZC kQ):Q:=h p
theorem Ch {P Q:Prop} (p:P) (h:P→Q:=by intro kQ;exact VC rfl rfl (by first|assumption|omega) (by first|assumption|omega) ZC kQ):Q:=h p
theorem K5 {P Q:Prop} (p:P) (h:P→Q:=by intro kQ;exact bV hh (i:=0) (vs:=[_]) rfl rfl (cz rfl) rfl aC.out rfl (by rw [aY,aU];omega) rfl kQ):Q:=h p
theorem M9 {P Q:Prop} (p:P) (h:P→Q:=by intro kQ;exact aw 8 [[(0,none)],[(5,none)],[(28,some 0),(29,some 1)],[(30,some 2)],[(1,none)],[(5,none)],[(32,some 4),(33,some 5)],[(34,some 6)]] [(7,35),(6,34),(5,33),(4,32),(3,31),(2,30),(1,29),(0,28)] hh mixed ZD kQ):Q:=h p
theorem D3 {P Q:Prop} (p:P) (h:P→Q:=by intro kQ;exact mZ (fun _ hj=>(hr.ext hj.hp.below).mX hx3) kQ):Q:=h p
theorem D5 {P Q:Prop} (p:P) (h:P→Q:=by intro kQ;exact mZ (fun _ hj=>(hs.ext hj.hp.below).mX hy3) kQ):Q:=h p
theorem Ow {P Q:Prop} (p:P) (h:P→Q:=by intro kQ;exact az (aH (aa v35 (aa v34 (aa v33 (aa v32 (aa v31 (aa v30 (aa v29 (aa v28 ay))))))))) kQ):Q:=h p
theorem Ta {P Q:Prop} (p:P) (h:P→Q:=by intro kQ;exact aw 8 [[(0,none)],[(5,none)],[(38,some 0),(39,some 1)],[(40,some 2)],[(1,none)],[(5,none)],[(42,some 4),(43,some 5)],[(44,some 6)]] [(7,45),(6,44),(5,43),(4,42),(3,41),(2,40),(1,39),(0,38)] hh mixed ZD kQ):Q:=h p
theorem Tx {P Q:Prop} (p:P) (h:P→Q:=by intro kQ;exact az (aH (aa v45 (aa v44 (aa v43 (aa v42 (aa v41 (aa v40 (aa v39 (aa v38 ay))))))))) kQ):Q:=h p
theorem Eo {P Q:Prop} (p:P) (h:P→Q:=by intro kQ;exact nC (aN (bX (cT (dP (eF (bX (k9 (sr (mI (aI (aN (sr (aI (aN (bX (sr (mI (mL (sU kQ)))))))))))))))))))):Q:=h p
theorem LP {P Q:Prop} (p:P) (h:P→Q:=by intro kQ;exact dt (k:=done.length) bj.out aC.size rfl rfl ZB ZB ZC kQ):Q:=h p
theorem lj {P Q:Prop} (p:P) (h:P→Q:=by intro kQ;exact bF aC.out rfl (hh.dZ (i:=0) rfl (by first|assumption|(simp only [Z8];assumption))) ZC kQ):Q:=h p
theorem pW {P Q:Prop} (p:P) (h:P→Q:=by intro kQ;exact mQ (k:=done.length) bj.out aC.size rfl rfl ZB ZB ZC kQ):Q:=h p
theorem y9 {P Q:Prop} (p:P) (h:P→Q:=by intro kQ;exact bV hh (i:=0) (vs:=[_]) rfl rfl (cz rfl) rfl aC.out rfl (by rw [aY];simp only [ZS,aae];omega) rfl kQ):Q:=h p
theorem ue {P Q:Prop} (p:P) (h:P→Q:=by intro kQ;exact de hh (cs:=[_]) bj.out aC.out (bR (cz rfl) dX) rfl rfl ZC ZC ZC rfl ZC kQ):Q:=h p
theorem tS {P Q:Prop} (p:P) (h:P→Q:=by intro kQ;exact aq (jc a _ ha) ak.out rfl ZC kQ):Q:=h p
theorem Ic {P Q:Prop} (p:P) (h:P→Q:=by intro kQ;exact aq (jc b _ hb) ak.out rfl ZC kQ):Q:=h p
theorem Cz {P Q:Prop} (p:P) (h:P→Q:=by intro kQ;exact a0 hh (qz _ _ _ _ _ _ (aO 18446744073709551616 (bN a)) (aO 18446744073709551616 (bN b)) _ (hh.ar (i:=1) rfl) (hh.ar (i:=0) rfl) (gN _) (gN _) (hh.fG (i:=1) rfl) (hh.fG (i:=0) rfl) ZB ZB) rfl kQ):Q:=h p
theorem sv {P Q:Prop} (p:P) (h:P→Q:=by intro kQ;exact Hj (bH rfl (bG (vs:=[_,_]) aC.out (hh.aK (i:=0) (n:=2) rfl rfl) rfl) cV) kQ):Q:=h p
theorem KP {P Q:Prop} (p:P) (h:P→Q:=by intro kQ;exact ae (N:=13) (l:=[.agg #[.bool s,.string m]]) Tryz.func89 rfl rfl (by simp) kQ):Q:=h p
theorem Iy {P Q:Prop} (p:P) (h:P→Q:=by intro kQ;exact Rq bj.out rfl rfl (by first|rfl|assumption|decide) ZC kQ):Q:=h p
theorem RH {P Q:Prop} (p:P) (h:P→Q:=by intro kQ;exact az (aH (aa v14 (aa v13 (aa v12 (aa v11 (aa v10 (aa v9 (aa v8 (aa v7 (aa v6 (aa v5 ay))))))))))) kQ):Q:=h p
theorem Hl {P Q:Prop} (p:P) (h:P→Q:=by intro kQ;exact az (aH (aa v14 (aa v13 (aa v12 ay)))) kQ):Q:=h p
theorem LL {P Q:Prop} (p:P) (h:P→Q:=by intro kQ;exact aw 3 [[(2,none)],[(3,none)],[(6,some 1)]] [(2,7),(1,6),(0,5)] hh mixed ZD kQ):Q:=h p
theorem wD {P Q:Prop} (p:P) (h:P→Q:=by intro kQ;exact az (aH (aa v7 (aa v6 (aa v5 ay)))) kQ):Q:=h p
theorem tO {P Q:Prop} (p:P) (h:P→Q:=by intro kQ;exact de hh (cs:=[_,_,_,_]) bj.out aC.out (bR (eD rfl) (bR (eD rfl) dX)) rfl rfl ZC ZC ZC rfl ZC kQ):Q:=h p
theorem IE {P Q:Prop} (p:P) (h:P→Q:=by intro kQ;exact aw 10 [[(2,none)],[(18,some 0)],[(1,none)],[(20,some 2)],[(19,some 1),(21,some 3)],[(2,none)],[(23,some 5)],[(22,some 4),(24,some 6)],[(25,some 7)],[]] [(9,5),(8,26),(7,25),(6,24),(5,23),(4,22),(3,21),(2,20),(1,19),(0,18)] hh mixed ZD kQ):Q:=h p
theorem IL {P Q:Prop} (p:P) (h:P→Q:=by intro kQ;exact aV (i:=3) (fun ρ1 w1 hj hR=>wC (show ρ1 20=Value.int _ _ from hR.1) ZB ZB) kQ):Q:=h p
theorem Ha {P Q:Prop} (p:P) (h:P→Q:=by intro kQ;exact aM (i:=9) (bC _ 31 _) bC.ext (fun ρ1 w1 hj hR=>eR aC.out hj.bl (fun v w2 h hb=>⟨hb,h⟩)) kQ):Q:=h p
theorem IP {P Q:Prop} (p:P) (h:P→Q:=by intro kQ;exact az (aH (aa e5 (aa v26 (aa v25 (aa v24 (aa v23 (aa v22 (aa v21 (aa v20 (aa v19 (aa v18 ay))))))))))) kQ):Q:=h p
theorem NF {P Q:Prop} (p:P) (h:P→Q:=by intro kQ;exact ae (N:=47) (l:=[.agg #[.bool true,.string a],.int .i64 (-(m:Int))]) Tryz.func124 rfl rfl (by simp) kQ):Q:=h p
theorem RY {P Q:Prop} (p:P) (h:P→Q:=by intro kQ;exact aw 5 [[(1,none)],[(3,some 0)],[(4,some 1)],[(1,none)],[(6,some 3)]] [(4,7),(3,6),(2,5),(1,4),(0,3)] hh mixed ZD kQ):Q:=h p
theorem MI {P Q:Prop} (p:P) (h:P→Q:=by intro kQ;exact ae (N:=41) (l:=[.agg #[.bool a.neg,.string a.aW,.int .i64 a.e],.agg #[.bool b.neg,.string b.aW,.int .i64 b.e]]) Tryz.func68 rfl rfl (by simp) kQ):Q:=h p
theorem OQ {P Q:Prop} (p:P) (h:P→Q:=by intro kQ;exact aw 3 [[(2,none)],[(7,some 0)],[(3,none)]] [(2,9),(1,8),(0,7)] hh mixed ZD kQ):Q:=h p
theorem MA {P Q:Prop} (p:P) (h:P→Q:=by intro kQ;exact dC (fun _ hj=>dT a _ (hT.hp hj.hp) ZB ZB ZB) kQ):Q:=h p
theorem Tg {P Q:Prop} (p:P) (h:P→Q:=by intro kQ;exact ae (N:=28) (l:=[.agg #[.bool a.neg,.string a.aW,.int .i64 a.e],.agg #[.bool b.neg,.string b.aW,.int .i64 b.e]]) Tryz.func26 rfl rfl (by simp) kQ):Q:=h p
theorem Hu {P Q:Prop} (p:P) (h:P→Q:=by intro kQ;exact bk (vs:=[_,_,_]) aC.out rfl (((hr.ext hh.below).recAt NR.len hx)) rfl ZC kQ):Q:=h p
theorem ui {P Q:Prop} (p:P) (h:P→Q:=by intro kQ;exact de hh (cs:=[_,_,_,_,_,_]) bj.out aC.out (bR (eD rfl) (bR (eD rfl) dX)) rfl rfl ZC ZC ZC rfl ZC kQ):Q:=h p
theorem C1 {P Q:Prop} (p:P) (h:P→Q:=by intro kQ;exact a0 hh (pg 1 _ (hT.hp hh) ZB ZB) rfl kQ):Q:=h p
theorem LN {P Q:Prop} (p:P) (h:P→Q:=by intro kQ;exact Fq (b:=1) rfl rfl (by first|assumption|omega) (by first|assumption|omega) ZC kQ):Q:=h p
theorem oM {P Q:Prop} (p:P) (h:P→Q:=by intro kQ;exact bQ hh (i:=1) rfl rfl rfl (hh.ar (i:=0) rfl) bj.out aC.out rfl ZC (by first|rfl|exact dw _|exact cL _|exact a9 _|exact bo NR.one _) ZB ZB ZC kQ):Q:=h p
theorem Df {P Q:Prop} (p:P) (h:P→Q:=by intro kQ;exact a0 hh (jY A n c j xs _ (hx.ext hh.below) hdx ZB ZB) rfl kQ):Q:=h p
theorem CD {P Q:Prop} (p:P) (h:P→Q:=by intro kQ;exact a0 hh (jY B m c' j ys _ (hy.ext hh.below) hdy ZB ZB) rfl kQ):Q:=h p
theorem z5 {P Q:Prop} (p:P) (h:P→Q:=by intro kQ;exact fT (n:=n) hh rfl rfl ZB ZB bj.out aC.out rfl ZB ZB ZC kQ):Q:=h p
theorem zi {P Q:Prop} (p:P) (h:P→Q:=by intro kQ;exact qu rfl rfl ZB ZC kQ):Q:=h p
theorem Nw {P Q:Prop} (p:P) (h:P→Q:=by intro kQ;exact bV hh (i:=0) (vs:=[_]) rfl rfl (cz rfl) rfl aC.out rfl (by rw [hll];omega) rfl kQ):Q:=h p
theorem CO {P Q:Prop} (p:P) (h:P→Q:=by intro kQ;exact aq (gl a _ ha) ak.out rfl ZC kQ):Q:=h p
theorem MY {P Q:Prop} (p:P) (h:P→Q:=by intro kQ;exact a0 hh (ie _ _ _ (aO 2 (bN m)) _ (hh.ar (i:=0) rfl) (lI _) (hh.fG (i:=0) rfl) ZB) rfl kQ):Q:=h p
theorem DD {P Q:Prop} (p:P) (h:P→Q:=by intro kQ;exact Hj (bH rfl (bG (vs:=[_,_]) aC.out (hh.aK (i:=1) (n:=2) rfl rfl) rfl) cV) kQ):Q:=h p
theorem B7 {P Q:Prop} (p:P) (h:P→Q:=by intro kQ;exact Hj (bH rfl (bG (vs:=[_,_,_]) aC.out (hh.aK (i:=0) (n:=3) rfl rfl) rfl) cV) kQ):Q:=h p
theorem HN {P Q:Prop} (p:P) (h:P→Q:=by intro kQ;exact ae (N:=38) (l:=[.agg #[.bool a.neg,.string a.aW,.int .i64 a.e],.agg #[.bool b.neg,.string b.aW,.int .i64 b.e]]) Tryz.func149 rfl rfl (by simp) kQ):Q:=h p
theorem G6 {P Q:Prop} (p:P) (h:P→Q:=by intro kQ;exact aw 3 [[(2,none)],[(5,some 0)],[(3,none)]] [(2,7),(1,6),(0,5)] hh mixed ZD kQ):Q:=h p
theorem IV {P Q:Prop} (p:P) (h:P→Q:=by intro kQ;exact dC (fun _ hj=>gk a _ ZB ZB ZB) kQ):Q:=h p
theorem Ir {P Q:Prop} (p:P) (h:P→Q:=by intro kQ;exact a0 hh (gk b _ ZB ZB ZB) rfl kQ):Q:=h p
theorem xt {P Q:Prop} (p:P) (h:P→Q:=by intro kQ;exact xf hh bj.out aC.out ZC kQ):Q:=h p
theorem rj {P Q:Prop} (p:P) (h:P→Q:=by intro kQ;exact bF aC.out rfl ((hr.ext hh.below).mX hgi) ZC kQ):Q:=h p
theorem zK {P Q:Prop} (p:P) (h:P→Q:=by intro kQ;exact ae (N:=29) (l:=[.agg #[.slice A n c,.slice B m c2]]) Tryz.func39 rfl rfl (by simp) kQ):Q:=h p
theorem IG {P Q:Prop} (p:P) (h:P→Q:=by intro kQ;exact a0 hh (fD A n c ds _ (hS.ext hh.below) hn) rfl kQ):Q:=h p
theorem Lr {P Q:Prop} (p:P) (h:P→Q:=by intro kQ;exact aw 6 [[(1,none)],[(19,some 0)],[(20,some 1)],[(1,none)],[(22,some 3)],[(23,some 4)]] [(5,24),(4,23),(3,22),(2,21),(1,20),(0,19)] hh mixed ZD kQ):Q:=h p
theorem Oy {P Q:Prop} (p:P) (h:P→Q:=by intro kQ;exact az (aH (aa v24 (aa v23 (aa v22 (aa v21 (aa v20 (aa v19 ay))))))) kQ):Q:=h p
theorem p6 {P Q:Prop} (p:P) (h:P→Q:=by intro kQ;exact de hh (cs:=[_,_,_]) bj.out aC.out (bR (eD rfl) dX) rfl rfl ZC ZC ZC rfl ZC kQ):Q:=h p
theorem SB {P Q:Prop} (p:P) (h:P→Q:=by intro kQ;exact bQ hh (i:=5) rfl rfl rfl (hh.ar (i:=0) rfl) bj.out aC.out rfl ZC (by first|rfl|exact dw _|exact cL _|exact a9 _|exact bo NR.one _) ZB ZB ZC kQ):Q:=h p
theorem G2 {P Q:Prop} (p:P) (h:P→Q:=by intro kQ;exact dt (k:=(n-1-k)) bj.out aC.size rfl rfl ZB ZB ZC kQ):Q:=h p
theorem Ex {P Q:Prop} (p:P) (h:P→Q:=by intro kQ;exact bF aC.out rfl ((s1.ext hh.below).mX (by assumption)) ZC kQ):Q:=h p
theorem Ey {P Q:Prop} (p:P) (h:P→Q:=by intro kQ;exact bF aC.out rfl ((s2.ext hh.below).mX (by assumption)) ZC kQ):Q:=h p
theorem HQ {P Q:Prop} (p:P) (h:P→Q:=by intro kQ;exact bV hh (i:=1) (vs:=[_]) rfl rfl (cz rfl) rfl aC.out rfl ZB rfl kQ):Q:=h p
theorem G9 {P Q:Prop} (p:P) (h:P→Q:=by intro kQ;exact bV hh (i:=3) (vs:=[_,_,_]) rfl rfl (eD rfl) rfl aC.out rfl ZB rfl kQ):Q:=h p
theorem Ia {P Q:Prop} (p:P) (h:P→Q:=by intro kQ;exact Hj (bH rfl (bG (vs:=[_,_]) aC.out (hh.aK (i:=2) (n:=2) rfl rfl) rfl) cV) kQ):Q:=h p
theorem R1 {P Q:Prop} (p:P) (h:P→Q:=by intro kQ;exact aw 8 [[(2,none)],[(4,some 0)],[(5,some 1)],[(1,none)],[(7,some 3)],[(8,some 4)],[(9,some 5)],[(10,some 6)]] [(7,11),(6,10),(5,9),(4,8),(3,7),(2,6),(1,5),(0,4)] hh mixed ZD kQ):Q:=h p
theorem GK {P Q:Prop} (p:P) (h:P→Q:=by intro kQ;exact mZ (fun _ hj=>(hj.hp.below.cell (o4 hp)).trans hp) kQ):Q:=h p
theorem xE {P Q:Prop} (p:P) (h:P→Q:=by intro kQ;exact bk (vs:=[_,_]) aC.out rfl ((hr.ext hh.below).recAt FX.len hx) rfl ZC kQ):Q:=h p
theorem zF {P Q:Prop} (p:P) (h:P→Q:=by intro kQ;exact a0 hh (hc _ (hT.hp hh) hh.below) rfl kQ):Q:=h p
theorem OD {P Q:Prop} (p:P) (h:P→Q:=by intro kQ;exact ae (N:=66) (l:=[.agg #[.slice f.A f.n f.a,.slice f.B f.m f.b],.slice E q cE]) Tryz.func123 rfl rfl (by simp) kQ):Q:=h p
theorem iF {P Q:Prop} (p:P) (h:P→Q:=by intro kQ;exact a0 hh (hck _ (hT.hp hh) hh.below) rfl kQ):Q:=h p
theorem pP {P Q:Prop} (p:P) (h:P→Q:=by intro kQ;exact Cw (bH rfl (bG (vs:=[_,_]) aC.out (hh.aK (i:=2) (n:=2) rfl rfl) rfl) (dL (ep rfl) cV)) kQ):Q:=h p
theorem zf {P Q:Prop} (p:P) (h:P→Q:=by intro kQ;exact a0 hh (hlk _ (hT.hp hh) hh.below) rfl kQ):Q:=h p
theorem rM {P Q:Prop} (p:P) (h:P→Q:=by intro kQ;exact dt (k:=j) bj.out aC.size pN rfl ZB ZB ZC kQ):Q:=h p
theorem yR {P Q:Prop} (p:P) (h:P→Q:=by intro kQ;exact bF aC.out rfl (hh.dZ (i:=1) rfl (by first|assumption|(simp only [Z8];assumption))) ZC kQ):Q:=h p
theorem Lp {P Q:Prop} (p:P) (h:P→Q:=by intro kQ;exact de hh (cs:=[_,_]) bj.out aC.out (bR (eD rfl) dX) rfl rfl ZC ZC ZC rfl ZC kQ):Q:=h p
theorem RM {P Q:Prop} (p:P) (h:P→Q:=by intro kQ;exact ae (N:=26) (l:=[.agg #[.slice f.A f.n f.a,.slice f.B f.m f.b],.agg #[.slice g.A g.n g.a,.slice g.B g.m g.b]]) Tryz.func33 rfl rfl (by simp) kQ):Q:=h p
theorem MC {P Q:Prop} (p:P) (h:P→Q:=by intro kQ;exact ae (N:=45) (l:=[.string a,.string b,.func (.func g) #[] #[]]) Tryz.func262 rfl rfl (by simp) kQ):Q:=h p
theorem Nk {P Q:Prop} (p:P) (h:P→Q:=by intro kQ;exact aw 8 [[(0,none)],[(5,none)],[(17,some 0),(18,some 1)],[(19,some 2)],[(1,none)],[(5,none)],[(21,some 4),(22,some 5)],[(23,some 6)]] [(7,24),(6,23),(5,22),(4,21),(3,20),(2,19),(1,18),(0,17)] hh mixed ZD kQ):Q:=h p
theorem TQ {P Q:Prop} (p:P) (h:P→Q:=by intro kQ;exact aV (i:=2) (fun ρ1 w1 hj hR=>ck bj.out aC.size (show ρ1 17=Value.slice _ _ _ from hR.1) (show ρ1 18=Value.int _ _ from hR.2.1) ZB ZB) kQ):Q:=h p
theorem S7 {P Q:Prop} (p:P) (h:P→Q:=by intro kQ;exact aV (i:=6) (fun ρ1 w1 hj hR=>ck bj.out aC.size (show ρ1 21=Value.slice _ _ _ from hR.1) (show ρ1 22=Value.int _ _ from hR.2.1) ZB ZB) kQ):Q:=h p
theorem NX {P Q:Prop} (p:P) (h:P→Q:=by intro kQ;exact az (aH (aa v24 (aa v23 (aa v22 (aa v21 (aa v20 (aa v19 (aa v18 (aa v17 ay))))))))) kQ):Q:=h p
theorem rP {P Q:Prop} (p:P) (h:P→Q:=by intro kQ;exact bF aC.out rfl (la hr (bB hdk) rfl) ZC kQ):Q:=h p
theorem LM {P Q:Prop} (p:P) (h:P→Q:=by intro kQ;exact de hh (cs:=[_]) bj.out aC.out (bR rfl dX) rfl rfl ZC ZC ZC rfl ZC kQ):Q:=h p
theorem CE {P Q:Prop} (p:P) (h:P→Q:=by intro kQ;exact ae (N:=40) (l:=[.agg #[.slice A n c,.slice B m c2]]) Tryz.func50 rfl rfl (by simp) kQ):Q:=h p
theorem Dq {P Q:Prop} (p:P) (h:P→Q:=by intro kQ;exact a0 hh (pL A n c ds _ (hS.ext hh.below) hn) rfl kQ):Q:=h p
theorem RJ {P Q:Prop} (p:P) (h:P→Q:=by intro kQ;exact aw 11 [[(1,none)],[(28,some 0)],[(4,none)],[(29,some 1),(30,some 2)],[(31,some 3)],[(32,some 4)],[(1,none)],[(34,some 6)],[(4,none)],[(35,some 7),(36,some 8)],[(37,some 9)]] [(10,38),(9,37),(8,36),(7,35),(6,34),(5,33),(4,32),(3,31),(2,30),(1,29),(0,28)] hh mixed ZD kQ):Q:=h p
theorem Rx {P Q:Prop} (p:P) (h:P→Q:=by intro kQ;exact aV (i:=3) (fun ρ1 w1 hj hR=>ck bj.out aC.size (show ρ1 29=Value.slice _ _ _ from hR.1) (show ρ1 30=Value.int _ _ from hR.2.1) ZB ZB) kQ):Q:=h p
theorem H5 {P Q:Prop} (p:P) (h:P→Q:=by intro kQ;exact nu [_,_,_] (fun _ hj=>(hr.ext hj.hp.below).recAt NR.len hx) kQ):Q:=h p
theorem RO {P Q:Prop} (p:P) (h:P→Q:=by intro kQ;exact aV (i:=9) (fun ρ1 w1 hj hR=>ck bj.out aC.size (show ρ1 35=Value.slice _ _ _ from hR.1) (show ρ1 36=Value.int _ _ from hR.2.1) ZB ZB) kQ):Q:=h p
theorem Rz {P Q:Prop} (p:P) (h:P→Q:=by intro kQ;exact az (aH (aa v38 (aa v37 (aa v36 (aa v35 (aa v34 (aa v33 (aa v32 (aa v31 (aa v30 (aa v29 (aa v28 ay)))))))))))) kQ):Q:=h p
theorem OT {P Q:Prop} (p:P) (h:P→Q:=by intro kQ;exact aw 10 [[(8,none)],[(1,none)],[(37,some 0),(38,some 1)],[(39,some 2)],[(40,some 3)],[(2,none)],[(42,some 5)],[(1,none)],[(43,some 6),(44,some 7)],[(45,some 8)]] [(9,46),(8,45),(7,44),(6,43),(5,42),(4,41),(3,40),(2,39),(1,38),(0,37)] hh mixed ZD kQ):Q:=h p
theorem Lk {P Q:Prop} (p:P) (h:P→Q:=by intro kQ;exact aV (i:=3) (fun ρ1 w1 hj hR=>eB aC.out (show ρ1 39=Value.pointer _ from hR.1) (hj.hp.dA (i:=1) rfl (by first|assumption|(simp only [Z8];assumption)))) kQ):Q:=h p
theorem MM {P Q:Prop} (p:P) (h:P→Q:=by intro kQ;exact aV (i:=4) (fun ρ1 w1 hj hR=>qk bj.out bj.out (show ρ1 40=Value.int _ _ from hR.1) ZB ZB) kQ):Q:=h p
theorem Lz {P Q:Prop} (p:P) (h:P→Q:=by intro kQ;exact aV (i:=9) (fun ρ1 w1 hj hR=>eB aC.out (show ρ1 45=Value.pointer _ from hR.1) ((s1.ext hj.hp.below).mX (by assumption))) kQ):Q:=h p
theorem Mt {P Q:Prop} (p:P) (h:P→Q:=by intro kQ;exact az (aH (aa v46 (aa v45 (aa v44 (aa v43 (aa v42 (aa v41 (aa v40 (aa v39 (aa v38 (aa v37 ay))))))))))) kQ):Q:=h p
theorem Te {P Q:Prop} (p:P) (h:P→Q:=by intro kQ;exact aw 7 [[(2,none)],[(48,some 0)],[(2,none)],[(50,some 2)],[(8,none)],[(52,some 4)],[(51,some 3),(53,some 5)]] [(6,54),(5,53),(4,52),(3,51),(2,50),(1,49),(0,48)] hh mixed ZD kQ):Q:=h p
theorem Ox {P Q:Prop} (p:P) (h:P→Q:=by intro kQ;exact bF aC.out rfl (hh.dA (i:=1) rfl (by first|assumption|(simp only [Z8];assumption))) ZC kQ):Q:=h p
theorem Hz {P Q:Prop} (p:P) (h:P→Q:=by intro kQ;exact bQ hh (i:=3) rfl rfl rfl (hh.ar (i:=0) rfl) bj.out aC.out rfl ZC (by first|rfl|exact dw _|exact cL _|exact a9 _|exact bo NR.one _) ZB ZB ZC kQ):Q:=h p
theorem MU {P Q:Prop} (p:P) (h:P→Q:=by intro kQ;exact ae (N:=69) (l:=[.agg #[.slice F n c1,.slice FC m c2],.slice E q cE]) Tryz.func93 rfl rfl (by simp) kQ):Q:=h p
theorem N6 {P Q:Prop} (p:P) (h:P→Q:=by intro kQ;exact aw 13 [[(1,none)],[(7,none)],[(28,some 0),(29,some 1)],[(30,some 2)],[(2,none)],[(32,some 4)],[(7,none)],[(33,some 5),(34,some 6)],[(35,some 7)],[(31,some 3),(36,some 8)],[(37,some 9)],[(1,none),(38,some 10)],[(7,none),(38,some 10)]] [(12,40),(11,39),(10,38),(9,37),(8,36),(7,35),(6,34),(5,33),(4,32),(3,31),(2,30),(1,29),(0,28)] hh mixed ZD kQ):Q:=h p
theorem N5 {P Q:Prop} (p:P) (h:P→Q:=by intro kQ;exact aV (i:=3) (fun ρ1 w1 hj hR=>eB aC.out (show ρ1 30=Value.pointer _ from hR.1) ((s2.ext hj.hp.below).mX (by assumption))) kQ):Q:=h p
theorem LG {P Q:Prop} (p:P) (h:P→Q:=by intro kQ;exact aV (i:=8) (fun ρ1 w1 hj hR=>eB aC.out (show ρ1 35=Value.pointer _ from hR.1) ((s1.ext hj.hp.below).mX (by assumption))) kQ):Q:=h p
theorem N7 {P Q:Prop} (p:P) (h:P→Q:=by intro kQ;exact az (aH (aa v40 (aa v39 (aa v38 (aa v37 (aa v36 (aa v35 (aa v34 (aa v33 (aa v32 (aa v31 (aa v30 (aa v29 (aa v28 ay)))))))))))))) kQ):Q:=h p
theorem rf {P Q:Prop} (p:P) (h:P→Q:=by intro kQ;exact Cw (bH rfl (bG (vs:=[_,_]) aC.out (hh.aK (i:=0) (n:=2) rfl rfl) rfl) (dL (ep rfl) cV)) kQ):Q:=h p
theorem TX {P Q:Prop} (p:P) (h:P→Q:=by intro kQ;exact aw 9 [[(2,none)],[(55,some 0)],[(8,none)],[(56,some 1),(57,some 2)],[(58,some 3)],[(1,none)],[(8,none)],[(60,some 5),(61,some 6)],[(62,some 7)]] [(8,63),(7,62),(6,61),(5,60),(4,59),(3,58),(2,57),(1,56),(0,55)] hh mixed ZD kQ):Q:=h p
theorem SH {P Q:Prop} (p:P) (h:P→Q:=by intro kQ;exact aV (i:=3) (fun ρ1 w1 hj hR=>ck bj.out aC.size (show ρ1 56=Value.slice _ _ _ from hR.1) (show ρ1 57=Value.int _ _ from hR.2.1) ZB ZB) kQ):Q:=h p
theorem Sj {P Q:Prop} (p:P) (h:P→Q:=by intro kQ;exact aV (i:=7) (fun ρ1 w1 hj hR=>ck bj.out aC.size (show ρ1 60=Value.slice _ _ _ from hR.1) (show ρ1 61=Value.int _ _ from hR.2.1) ZB ZB) kQ):Q:=h p
theorem Tf {P Q:Prop} (p:P) (h:P→Q:=by intro kQ;exact az (aH (aa v63 (aa v62 (aa v61 (aa v60 (aa v59 (aa v58 (aa v57 (aa v56 (aa v55 ay)))))))))) kQ):Q:=h p
theorem Sm {P Q:Prop} (p:P) (h:P→Q:=by intro kQ;exact aw 11 [[(0,none)],[(5,none)],[(29,some 0),(30,some 1)],[(31,some 2)],[(32,some 3)],[(33,some 4)],[(0,none)],[(35,some 6)],[(36,some 7)],[(37,some 8)],[(38,some 9)]] [(10,39),(9,38),(8,37),(7,36),(6,35),(5,34),(4,33),(3,32),(2,31),(1,30),(0,29)] hh mixed ZD kQ):Q:=h p
theorem RT {P Q:Prop} (p:P) (h:P→Q:=by intro kQ;exact az (aH (aa v39 (aa v38 (aa v37 (aa v36 (aa v35 (aa v34 (aa v33 (aa v32 (aa v31 (aa v30 (aa v29 ay)))))))))))) kQ):Q:=h p
theorem HU {P Q:Prop} (p:P) (h:P→Q:=by intro kQ;exact bQ hh (i:=2) rfl rfl rfl (hh.ar (i:=0) rfl) bj.out aC.out rfl ZC (by first|rfl|exact dw _|exact cL _|exact a9 _|exact bo NR.one _) ZB ZB ZC kQ):Q:=h p
theorem G4 {P Q:Prop} (p:P) (h:P→Q:=by intro kQ;exact bV hh (i:=0) (vs:=[_,_,_]) rfl rfl (eD rfl) rfl aC.out rfl ZB rfl kQ):Q:=h p
theorem M5 {P Q:Prop} (p:P) (h:P→Q:=by intro kQ;exact ae (N:=44) (l:=[.agg #[.slice fx.A fx.n fx.a,.slice fx.B fx.m fx.b],.int .i64 ax,.agg #[.bool sn.neg,.string sn.aW,.int .i64 sn.e]]) Tryz.func161 rfl rfl (by simp) kQ):Q:=h p
theorem TM {P Q:Prop} (p:P) (h:P→Q:=by intro kQ;exact Kg (bH rfl (bG (vs:=[_,_]) aC.out (hh.aK (i:=1) (n:=2) rfl rfl) rfl) (bH rfl (bG (vs:=[_,_]) aC.out (hh.aK (i:=0) (n:=2) rfl rfl) rfl) (dL (ep rfl) cV))) kQ):Q:=h p
theorem Oc {P Q:Prop} (p:P) (h:P→Q:=by intro kQ;exact jG 8 ZC ZD ZC ZD ZD kQ):Q:=h p
theorem RR {P Q:Prop} (p:P) (h:P→Q:=by intro kQ;exact ae (N:=35) (l:=[.agg #[.slice g.A g.n g.a,.slice g.B g.m g.b],.agg #[.bool eps.neg,.string eps.aW,.int .i64 eps.e]]) Tryz.func16 rfl rfl (by simp) kQ):Q:=h p
theorem HZ {P Q:Prop} (p:P) (h:P→Q:=by intro kQ;exact ae (N:=18) (l:=[.agg #[.bool a.neg,.string a.aW,.int .i64 a.e]]) Tryz.func13 rfl rfl (by simp) kQ):Q:=h p
theorem NC {P Q:Prop} (p:P) (h:P→Q:=by intro kQ;exact dt (k:=i) bj.out aC.size pN rfl ZB ZB ZC kQ):Q:=h p
theorem Hb {P Q:Prop} (p:P) (h:P→Q:=by intro kQ;exact bF aC.out rfl ((s1.ext hh.below).mX hgd) ZC kQ):Q:=h p
theorem La {P Q:Prop} (p:P) (h:P→Q:=by intro kQ;exact dt (k:=m) bj.out aC.size rfl rfl ZB ZB ZC kQ):Q:=h p
theorem SP {P Q:Prop} (p:P) (h:P→Q:=by intro kQ;exact kH [2] [0,1,0,3,15,31] 3 [[(4,none)],[(48,some 0)],[(5,none)]] [(2,50),(1,49),(0,48)] [([],3,[(1,49),(0,48)]),([2],2,[(2,50),(1,49),(0,48)])] hh mixed ZD ZD ZC kQ):Q:=h p
theorem vK {P Q:Prop} (p:P) (h:P→Q:=by intro kQ;exact bk (vs:=[_,_,_,_,_,_]) aC.out rfl ((hr.ext hh.below).recAt SR.len hs) rfl ZC kQ):Q:=h p
theorem GV {P Q:Prop} (p:P) (h:P→Q:=by intro kQ;exact bk (vs:=[_,_,_]) aC.out rfl ((hr.ext hh.below).recAt NR.len ha) rfl ZC kQ):Q:=h p
theorem K3 {P Q:Prop} (p:P) (h:P→Q:=by intro kQ;exact ae (N:=63) (l:=[.agg #[.slice f.A f.n f.a,.slice f.B f.m f.b],.agg #[.slice g.A g.n g.a,.slice g.B g.m g.b],.int .i64 p]) Tryz.func9 rfl rfl (by simp) kQ):Q:=h p
theorem Cs {P Q:Prop} (p:P) (h:P→Q:=by intro kQ;exact de hh (cs:=[_,_,_,_,_,_]) bj.out aC.out (bR (eD rfl) dX) rfl rfl ZC ZC ZC rfl ZC kQ):Q:=h p
theorem Mj {P Q:Prop} (p:P) (h:P→Q:=by intro kQ;exact aw 9 [[(3,none)],[(13,some 0)],[(14,some 1)],[(5,none),(15,some 2)],[(16,some 3),(15,some 2)],[(0,none),(15,some 2)],[(3,none),(15,some 2)],[(18,some 5),(19,some 6),(15,some 2)],[(20,some 7),(15,some 2)]] [(8,21),(7,20),(6,19),(5,18),(4,17),(3,16),(2,15),(1,14),(0,13)] hh mixed ZD kQ):Q:=h p
theorem MO {P Q:Prop} (p:P) (h:P→Q:=by intro kQ;exact az (aH (aa v21 (aa v20 (aa v19 (aa v18 (aa v17 (aa v16 (aa v15 (aa v14 (aa v13 ay)))))))))) kQ):Q:=h p
theorem RG {P Q:Prop} (p:P) (h:P→Q:=by intro kQ;exact eT (i:=4) rfl (fun ρ1 w1 hj hR=>(show ρ1 15=Value.bool _ from hR.2.1)) (fun ρ1 w1 hj hR=>a8 ak.out (av (show ρ1 16=Value.agg (List.toArray _) from hR.1) bh)) (fun w1 hj=>hc1 _ (hT.hp hj.hp)) kQ):Q:=h p
theorem ze {P Q:Prop} (p:P) (h:P→Q:=by intro kQ;exact xJ rfl (av (wG rfl) bh) ZC kQ):Q:=h p
theorem LV {P Q:Prop} (p:P) (h:P→Q:=by intro kQ;exact aw 7 [[(2,none)],[(0,none)],[(26,some 1)],[(27,some 2)],[(1,none)],[(29,some 4)],[(30,some 5)]] [(6,31),(5,30),(4,29),(3,28),(2,27),(1,26),(0,25)] hh mixed ZD kQ):Q:=h p
theorem OO {P Q:Prop} (p:P) (h:P→Q:=by intro kQ;exact az (aH (aa v31 (aa v30 (aa v29 (aa v28 (aa v27 (aa v26 (aa v25 ay)))))))) kQ):Q:=h p
theorem Oh {P Q:Prop} (p:P) (h:P→Q:=by intro kQ;exact bk (vs:=[_,_,_,_]) aC.out rfl ((hr.ext hh.below).recAt TR.len hxx) rfl ZC kQ):Q:=h p
theorem C5 {P Q:Prop} (p:P) (h:P→Q:=by intro kQ;exact de hh (cs:=[_,_,_,_]) bj.out aC.out (bR (eD rfl) dX) rfl rfl ZC ZC ZC rfl ZC kQ):Q:=h p
theorem LD {P Q:Prop} (p:P) (h:P→Q:=by intro kQ;exact bk (vs:=[_,_,_,_]) aC.out rfl ((hr2.ext hh.below).recAt TR.len hyy) rfl ZC kQ):Q:=h p
theorem OR {P Q:Prop} (p:P) (h:P→Q:=by intro kQ;exact nV (h:=i) bj.out aC.size rfl rfl ZB ZB ZC kQ):Q:=h p
theorem Ii {P Q:Prop} (p:P) (h:P→Q:=by intro kQ;exact Cw (bH rfl (bG (vs:=[_,_]) aC.out (hh.aK (i:=1) (n:=2) rfl rfl) rfl) (dL (ep rfl) cV)) kQ):Q:=h p
theorem rm {P Q:Prop} (p:P) (h:P→Q:=by intro kQ;exact bk (vs:=[_,_,_,_]) aC.out rfl ((hr.ext hh.below).recAt TR.len hx) rfl ZC kQ):Q:=h p
theorem Ct {P Q:Prop} (p:P) (h:P→Q:=by intro kQ;exact eT (i:=9) rfl (fun ρ1 w1 hj hR=>(show ρ1 27=Value.bool _ from hR.2.1)) (fun ρ1 w1 hj hR=>a8 ak.out (av (show ρ1 29=Value.agg (List.toArray _) from hR.1) bh)) (fun w1 hj=>hsg _) kQ):Q:=h p
theorem Iw {P Q:Prop} (p:P) (h:P→Q:=by intro kQ;exact eT (i:=15) rfl (fun ρ1 w1 hj hR=>(show ρ1 33=Value.bool _ from hR.2.1)) (fun ρ1 w1 hj hR=>a8 ak.out (av (show ρ1 35=Value.agg (List.toArray _) from hR.1) bh)) (fun w1 hj=>hfo _ (hT.hp hj.hp)) kQ):Q:=h p
theorem NJ {P Q:Prop} (p:P) (h:P→Q:=by intro kQ;exact Bc (i:=18) rfl (fun ρ1 w1 hj hR=>(show ρ1 33=Value.bool _ from hR.2.2.1)) (fun ρ1 w1 hj hR=>GH (show ρ1 36=Value.agg (List.toArray _) from hR.1) (show ρ1 38=Value.agg (List.toArray _) from hR.2.1) (by first|assumption|rfl)) kQ):Q:=h p
theorem HA {P Q:Prop} (p:P) (h:P→Q:=by intro kQ;exact az (aH (aa v53 (aa v52 (aa v51 (aa v50 (aa v49 (aa v48 (aa v47 (aa v46 (aa v45 (aa v44 (aa v43 (aa v42 (aa v41 (aa v40 (aa v39 (aa v38 (aa v37 (aa v36 (aa v35 (aa v34 (aa v33 (aa v32 (aa v31 (aa v30 (aa v29 (aa v28 (aa v27 (aa v26 (aa v25 (aa v24 (aa v23 (aa v22 (aa v21 ay)))))))))))))))))))))))))))))))))) kQ):Q:=h p
theorem Na {P Q:Prop} (p:P) (h:P→Q:=by intro kQ;exact ae (N:=25) (l:=[.int .i64 v,.slice A n c]) Tryz.func218 rfl rfl (by simp) kQ):Q:=h p
theorem TA {P Q:Prop} (p:P) (h:P→Q:=by intro kQ;exact aw 6 [[(2,none)],[(4,some 0)],[(1,none)],[(6,some 2)],[(7,some 3)],[(8,some 4)]] [(5,9),(4,8),(3,7),(2,6),(1,5),(0,4)] hh mixed ZD kQ):Q:=h p
theorem Om {P Q:Prop} (p:P) (h:P→Q:=by intro kQ;exact bk (vs:=[_,_]) aC.out rfl ((hr.ext hh.below).recAt PX.len hx) rfl ZC kQ):Q:=h p
theorem LJ {P Q:Prop} (p:P) (h:P→Q:=by intro kQ;exact ae (N:=58) (l:=[.agg #[.int .i64 p.v,.slice p.A p.n p.c],.slice L n c,.slice M m mc]) Tryz.func151 rfl rfl (by simp) kQ):Q:=h p
theorem Dk {P Q:Prop} (p:P) (h:P→Q:=by intro kQ;exact bF aC.out rfl ((hr.ext hh.below).mX hy2) ZC kQ):Q:=h p
theorem Nh {P Q:Prop} (p:P) (h:P→Q:=by intro kQ;exact Cw (bH rfl (bG (vs:=[_,_]) aC.out (hh.aK (i:=3) (n:=2) rfl rfl) rfl) (dL (ep rfl) cV)) kQ):Q:=h p
theorem L8 {P Q:Prop} (p:P) (h:P→Q:=by intro kQ;exact aw 12 [[(5,none)],[(0,none)],[(8,some 1)],[(7,some 0),(9,some 2)],[(10,some 3)],[(0,none),(11,some 4)],[(5,none),(11,some 4)],[(12,some 5),(13,some 6),(11,some 4)],[(14,some 7),(11,some 4)],[(15,some 8),(11,some 4)],[(3,none),(11,some 4)],[(17,some 10),(11,some 4)]] [(11,18),(10,17),(9,16),(8,15),(7,14),(6,13),(5,12),(4,11),(3,10),(2,9),(1,8),(0,7)] hh mixed ZD kQ):Q:=h p
theorem GM {P Q:Prop} (p:P) (h:P→Q:=by intro kQ;exact dG (mZ (fun _ hj=>((hr.ext hj.hp.below).recAt TR.len ht).cell (i:=0) rfl) kQ)):Q:=h p
theorem LU {P Q:Prop} (p:P) (h:P→Q:=by intro kQ;exact az (aH (aa v18 (aa v17 (aa v16 (aa v15 (aa v14 (aa v13 (aa v12 (aa v11 (aa v10 (aa v9 (aa v8 (aa v7 ay))))))))))))) kQ):Q:=h p
theorem MZ {P Q:Prop} (p:P) (h:P→Q:=by intro kQ;exact aw 12 [[(5,none)],[(0,none)],[(29,some 1)],[(28,some 0),(30,some 2)],[(31,some 3)],[(0,none),(32,some 4)],[(5,none),(32,some 4)],[(33,some 5),(34,some 6),(32,some 4)],[(35,some 7),(32,some 4)],[(36,some 8),(32,some 4)],[(3,none),(32,some 4)],[(38,some 10),(32,some 4)]] [(11,39),(10,38),(9,37),(8,36),(7,35),(6,34),(5,33),(4,32),(3,31),(2,30),(1,29),(0,28)] hh mixed ZD kQ):Q:=h p
theorem L5 {P Q:Prop} (p:P) (h:P→Q:=by intro kQ;exact az (aH (aa v39 (aa v38 (aa v37 (aa v36 (aa v35 (aa v34 (aa v33 (aa v32 (aa v31 (aa v30 (aa v29 (aa v28 ay))))))))))))) kQ):Q:=h p
theorem RK {P Q:Prop} (p:P) (h:P→Q:=by intro kQ;exact aw 8 [[(6,none)],[(3,none)],[(63,some 1)],[(3,none)],[(65,some 3)],[(66,some 4)],[(64,some 2),(67,some 5)],[(68,some 6)]] [(7,69),(6,68),(5,67),(4,66),(3,65),(2,64),(1,63),(0,62)] hh mixed ZD kQ):Q:=h p
theorem Sx {P Q:Prop} (p:P) (h:P→Q:=by intro kQ;exact az (aH (aa e69 (aa v68 (aa v67 (aa v66 (aa v65 (aa v64 (aa v63 (aa v62 ay))))))))) kQ):Q:=h p
theorem Rv {P Q:Prop} (p:P) (h:P→Q:=by intro kQ;exact bQ hh (i:=0) rfl rfl rfl (f69) bj.out aC.out rfl ZC (by first|rfl|exact dw _|exact cL _|exact a9 _|exact bo NR.one _) ZB ZB ZC kQ):Q:=h p
theorem R7 {P Q:Prop} (p:P) (h:P→Q:=by intro kQ;exact bk (vs:=[_,_,_]) aC.out rfl ((hh.dy (f:=TR.cells) (x:=t) (l:=G) (i:=1) rfl TR.len ZC ht).drop 1) rfl ZC kQ):Q:=h p
theorem Hn {P Q:Prop} (p:P) (h:P→Q:=by intro kQ;exact bF aC.out rfl (((hr.ext hh.below).recAt TR.len hx).cell (i:=0) rfl) ZC kQ):Q:=h p
theorem Sv {P Q:Prop} (p:P) (h:P→Q:=by intro kQ;exact ae (N:=42) (l:=[.agg #[.int .i64 p.v,.slice p.A p.n p.c],.agg #[.bool c.neg,.string c.aW,.int .i64 c.e]]) Tryz.func190 rfl rfl (by simp) kQ):Q:=h p
theorem DV {P Q:Prop} (p:P) (h:P→Q:=by intro kQ;exact bF aC.out rfl ((hh.below.cell (o4 hp)).trans hp) ZC kQ):Q:=h p
theorem Tk {P Q:Prop} (p:P) (h:P→Q:=by intro kQ;exact aw 6 [[(8,none)],[(3,none)],[(21,some 1)],[(20,some 0),(22,some 2)],[(3,none)],[(24,some 4)]] [(5,25),(4,24),(3,23),(2,22),(1,21),(0,20)] hh mixed ZD kQ):Q:=h p
theorem TJ {P Q:Prop} (p:P) (h:P→Q:=by intro kQ;exact aV (i:=3) (fun ρ1 w1 hj hR=>u4 (show ρ1 20=Value.int _ _ from hR.1) (show ρ1 22=Value.int _ _ from hR.2.1) ZB ZB ZB) kQ):Q:=h p
theorem Oe {P Q:Prop} (p:P) (h:P→Q:=by intro kQ;exact ae (N:=46) (l:=[.agg #[.int .i64 p.v,.slice p.A p.n p.c],.agg #[.int .i64 q.v,.slice q.A q.n q.c],.slice L n c]) Tryz.func57 rfl rfl (by simp) kQ):Q:=h p
theorem MH {P Q:Prop} (p:P) (h:P→Q:=by intro kQ;exact ae (N:=112) (l:=[.agg #[.int .i64 p.v,.slice p.A p.n p.c],.agg #[.int .i64 q.v,.slice q.A q.n q.c],.slice L n c,.agg #[.bool eps.neg,.string eps.aW,.int .i64 eps.e],.int .i64 grid,.int .i64 bu]) Tryz.func21 rfl rfl (by simp) kQ):Q:=h p
theorem Nu {P Q:Prop} (p:P) (h:P→Q:=by intro kQ;exact bQ hh (i:=4) rfl rfl rfl (hh.ar (i:=0) rfl) bj.out aC.out rfl ZC (by first|rfl|exact dw _|exact cL _|exact a9 _|exact bo NR.one _) ZB ZB ZC kQ):Q:=h p
theorem ME {P Q:Prop} (p:P) (h:P→Q:=by intro kQ;exact aM (i:=9) (bC _ 58 _) bC.ext (fun ρ1 w1 hj hR=>eR aC.out hj.bl (fun v w2 h hb=>⟨hb,h⟩)) kQ):Q:=h p
theorem Ss {P Q:Prop} (p:P) (h:P→Q:=by intro kQ;exact ae (N:=78) (l:=[.agg #[.bool a.neg,.string a.aW,.int .i64 a.e],.agg #[.bool b.neg,.string b.aW,.int .i64 b.e],.int .i64 p]) Tryz.func47 rfl rfl (by simp) kQ):Q:=h p
theorem SI {P Q:Prop} (p:P) (h:P→Q:=by intro kQ;exact ae (N:=43) (l:=[.agg #[.slice g.A g.n g.a,.slice g.B g.m g.b],.agg #[.bool eps.neg,.string eps.aW,.int .i64 eps.e]]) Tryz.func17 rfl rfl (by simp) kQ):Q:=h p
theorem SL {P Q:Prop} (p:P) (h:P→Q:=by intro kQ;exact ae (N:=72) (l:=[.agg #[.slice f.A f.n f.a,.slice f.B f.m f.b],.agg #[.slice g.A g.n g.a,.slice g.B g.m g.b],.int .i64 p]) Tryz.func15 rfl rfl (by simp) kQ):Q:=h p
theorem N2 {P Q:Prop} (p:P) (h:P→Q:=by intro kQ;exact aw 8 [[(4,none)],[(12,some 0)],[(13,some 1)],[(0,none),(14,some 2)],[(4,none),(14,some 2)],[(15,some 3),(16,some 4),(14,some 2)],[(17,some 5),(14,some 2)],[(3,none),(14,some 2)]] [(7,19),(6,18),(5,17),(4,16),(3,15),(2,14),(1,13),(0,12)] hh mixed ZD kQ):Q:=h p
theorem Lt {P Q:Prop} (p:P) (h:P→Q:=by intro kQ;exact az (aH (aa v19 (aa v18 (aa v17 (aa v16 (aa v15 (aa v14 (aa v13 (aa v12 ay))))))))) kQ):Q:=h p
theorem SD {p:Prop} (h:p:=by
  refine dY ?_;refine eU (i:=4) ZD rfl ?_;refine dN (k:=1) bj.out aC.size rfl rfl ZB ZB ZC ?_;exact Sh):p:=h
theorem SS {p:Prop} (h:p:=by
  refine bJ ?_;intro ws hh;refine pP ?_;exact Vo):p:=h
theorem Rs {p:Prop} (h:p:=by
  refine dY ?_;refine eU (i:=2) ZD rfl ?_;refine gE hh 3 [_,_] ?_;intro ws hh;replace hh:Hp _ (_::_::_::.blk _ _ [_,_] _::_) _:=hh;exact Si):p:=h
theorem TB {p:Prop} (h:p:=by
  refine aj ?_;refine qu (b:=1) rfl rfl ZB ZC ?_;refine aj ?_;refine fO rfl rfl ZC ?_;refine aj ?_;rw [hqd,hdn];refine ⟨⟨rfl,hh⟩, ?_⟩;exact dh):p:=h
theorem SG {p:Prop} (h:p:=by
  refine ⟨⟨i+1,ZB,rfl,by rw [al hx,abK,hall,abT,abV,Z3 ZB];rfl,hh⟩,by show n-(i+1)<n-i;omega, ?_⟩;exact dh):p:=h
theorem Tm {p:Prop} (h:p:=by
  refine aj ?_;refine qu (b:=1) rfl rfl ZB ZC ?_;refine aj ?_;refine fO rfl rfl ZC ?_;refine aj ?_;rw [hqd,hrd];refine ⟨⟨q-1,rh+y1,rfl,rfl,hI2,hr3,hh⟩,by show ((q-1:Nat):Int).toNat<(q:Int).toNat;omega, ?_⟩;exact dh):p:=h
theorem S0 {p:Prop} (h:p:=by
  refine aj ?_;refine bk (vs:=[_,_,_]) aC.out rfl ((hr.ext hh.below).recAt NR.len hx) rfl ZC ?_;refine a0 hh (gk x _ ZB ZB ZB) rfl ?_;intro w27 hh;refine bJ ?_;intro ws hh;refine ⟨⟨i+1,_,ZB,rfl,hS3.symm,hxk,hh⟩,by show n-(i+1)<n-i;omega, ?_⟩;exact dh):p:=h
theorem NO {p:Prop} (h:p:=by
  generalize ((2^fx.n:Nat):Int)=Z at*;exact QZ):p:=h
theorem RI {p:Prop} (h:p:=by
  refine dY ?_;refine eU (i:=3) ZD rfl ?_;refine nB hh 3 [_,_] ?_;exact Xc):p:=h
theorem TL {p:Prop} (h:p:=by
  refine ⟨⟨i+1,_,ZB,rfl,hS3.symm,hh⟩,by show n-(i+1)<n-i;omega, ?_⟩;exact dh):p:=h
theorem KM {p:Prop} (h:p:=by
  refine aj ?_;exact ⟨by rw [ZH (.inr rfl)],hh.below⟩):p:=h
theorem Sw {p:Prop} (h:p:=by
  refine ⟨⟨j+1,ZB,rfl,hh⟩,by show d-i+1-(j+1)<d-i+1-j;omega, ?_⟩;exact dh):p:=h
theorem RW {p:Prop} (h:p:=by
  exact ⟨_,_,by rw [e1],by rw [e1,e2];exact hh.sub (ZI _ (aaJ _))⟩):p:=h
theorem Tv {p:Prop} (h:p:=by
  rw [abL];split
  ·exact List.nodup_nil
  ·exact abG.2 ⟨by simp,List.nodup_nil⟩):p:=h
theorem MB {p:Prop} (h:p:=by
  dsimp only [bf];clear hJ;refine aj ?_;exact ⟨rfl,hh.below⟩):p:=h
theorem Nf {p:Prop} (h:p:=by
  exact ⟨none,0,0,rfl,(hh.sub (aaJ _)).cq _ _⟩):p:=h
theorem R5 {p:Prop} (h:p:=by
  refine DD ?_;exact ⟨rfl,hh.below⟩):p:=h
theorem Tn {p:Prop} (h:p:=by
  refine sv ?_;exact ⟨rfl,hh.below⟩):p:=h
theorem K0 {p:Prop} (h:p:=by
  rw [aa2,Array.getElem?_replicate];split<;>rfl):p:=h
theorem SQ {p:Prop} (h:p:=by
  refine aj ?_;refine rP ?_;refine aj ?_;simp only [x7,hf];exact QU):p:=h
theorem RZ {p:Prop} (h:p:=by
  refine ae (N:=38) (l:=[.int .i64 v,.slice A n c]) Tryz.func73 rfl rfl (by simp) ?_;refine bU ?_;intro b4 w4 hh ws hh;exact QD):p:=h
theorem MN {p:Prop} (h:p:=by
  exact ⟨PX.nil,iz.err ZC,rfl,(hh.sub (aaJ _)).Nc⟩):p:=h
theorem R9 {p:Prop} (h:p:=by
  refine ⟨⟨i,_,_,ZB,rfl,by rw [d1];rfl,by rw [d1];exact hh⟩,by show ((i:Int)-1+1).toNat<((i:Int)+1).toNat;omega, ?_⟩;exact dh):p:=h
theorem TO {p:Prop} (h:p:=by
  refine Hb ?_;refine aj ?_;refine ⟨⟨j+1,ZB,rfl,hh⟩,by show f.n-(j+1)<f.n-j;omega, ?_⟩;exact dh):p:=h
theorem Ti {p:Prop} (h:p:=by
  refine lY ?_;refine dS (dS (dS (dS (dS ?_))));refine oZ (i:=18) rfl (fun ρ1 w1 hj hR=>(show ρ1 33=Value.bool _ from hR.2.2.1)) ZC ?_;refine Nt ?_;exact Yu):p:=h
theorem RP {p:Prop} (h:p:=by
  refine dY ?_;refine eU (i:=2) ZD rfl ?_;refine gE hh 4 [_,_] ?_;intro ws hh;replace hh:Hp _ (_::_::_::_::.blk _ _ [_,_] _::_) _:=hh;exact VX):p:=h
theorem Sd {p:Prop} (h:p:=by
  rw [hmx,kf _ (by rw [←bP];omega),OX hab hxa hyb] at hh;refine aj ?_;refine ⟨⟨j+1,ZB,rfl,hh⟩,by show f0.n-(j+1)<f0.n-j;omega, ?_⟩;exact dh):p:=h
theorem NH {p:Prop} (h:p:=by
  refine ⟨_,rfl, ?_⟩;replace hh:=hh.join h3;simp only [ZR,ZN] at hh;exact KL):p:=h
theorem TD {p:Prop} (h:p:=by
  refine bJ ?_;intro ws hh;replace hh:=hh.sub (aan _ _);refine ⟨⟨i+1,_,_,ZB,rfl,hS3.symm,hpl,by unfold IR.v at hba ⊢;omega,hh⟩,by show n-(i+1)<n-i;omega, ?_⟩;exact dh):p:=h
theorem L4 {p:Prop} (h:p:=by
  intro A7 c7 w7 hh;simp only [ZP] at hh;rw [Z9] at hh ⊢;rw [ZN] at hh;exact wF):p:=h
theorem Tc {p:Prop} (h:p:=by
  have hik:i=k:=by
   rcases aap i k with h|h
   ·exact absurd ⟨i,h,h2,h3⟩ hex
   ·omega
  subst hik;refine ⟨i,h2,h3,fun j hj=> ?_⟩
  cases hc2:L.getD j false with
  |true=>rfl
  |false=>exact absurd ⟨j,hj,ZB,hc2⟩ hex):p:=h
theorem S4 {p:Prop} (h:p:=by
  refine ae (N:=52) (l:=[.agg #[.slice fx.A fx.n fx.a,.slice fx.B fx.m fx.b],.int .i64 bits]) Tryz.func49 rfl rfl (by simp) ?_;refine bU ?_;intro b2 w2 hh b4 w4 hh;refine iF ?_;intro w11 hh;exact QZ):p:=h
theorem Tz {p:Prop} (h:p:=by
  refine ae (N:=23) (l:=[.int .i64 i,.agg s.cells.toArray,.pointer (some p)]) Tryz.func108 rfl rfl (by simp) ?_;refine bU ?_;intro b4 w4 hh b5 w5 hh;refine DV ?_;exact vI):p:=h
theorem Tj {p:Prop} (h:p:=by
  have h1:L.toList.countP (fun b=>b)=L.toList.length:=by
   have:=hI.ls;simp only [ac5];omega
  have h2:=acY.1 h1;have h3:i<L.size:=by rw [hI.ls,hnn];exact hi
  have:=h2 L[i] (by simp);simpa [h3] using this):p:=h
theorem Hx {p:Prop} (h:p:=by
  refine ⟨⟨i+1,ZB,rfl,hh⟩,by show (n-m/64)-(i+1)<(n-m/64)-i;omega, ?_⟩;exact dh):p:=h
theorem S2 {p:Prop} (h:p:=by
  refine aq (hpu _ (hT.hp hh) hh.below) ak.out rfl ZC ?_;rintro e_ w51 ⟨g,og,rfl,h3⟩;refine ⟨_,rfl, ?_⟩;replace hh:=hh.join h3;simp only [ZR,ZN] at hh;exact SS):p:=h
theorem TT {p:Prop} (h:p:=by
  obtain ⟨c,hc⟩:=ah (l:=s.data.toList) (k:=k) (by rw [←eS];exact hlt);have hb:=c.toNat_lt;by_cases h8:c.toNat<128
  ·refine aj ?_;refine ⟨⟨k+1,ZB,rfl,by rw [al hc,Kx,hm];simpa using h8,rfl⟩,by show s.size-(k+1)<s.size-k;omega, ?_⟩;exact dh
  ·refine aj ?_;rw [OW hc h8];exact ⟨rfl,Below.refl _ _⟩):p:=h
theorem SJ {p:Prop} (h:p:=by
  refine dY ?_;refine jG 4 ZC ZD ZC ZD ZD ?_;refine bJ ?_;intro ws hh;refine Kg (bH rfl (bG (vs:=[_,_]) aC.out (hh.aK (i:=1) (n:=2) rfl rfl) rfl) (bH rfl (bG (vs:=[_,_]) aC.out (hh.aK (i:=0) (n:=2) rfl rfl) rfl) (dL (lV rfl) cV))) ?_;exact ⟨_,_,rfl,hh.below⟩):p:=h
theorem Sn {p:Prop} (h:p:=by
  have hq:q<4294967296:=ZB;have hdn:=zQ b1 b0 hI ZB;rw [←hyy] at hdn;have hqy:=hqy hq;refine aj ?_;refine gD rfl rfl ZC ?_;refine aj ?_;refine gD (a:=4294967296) rfl rfl ZC ?_;refine aj ?_;refine fO rfl rfl ZC ?_;refine aj ?_;refine ⟨⟨aat (fun n:Nat=>Value.int IntKind.u64 n) hdn,hh⟩, ?_⟩;exact dh):p:=h
theorem OZ {p:Prop} (h:p:=by
  refine ae (N:=34) (l:=[.int .i64 v,.int .i64 x]) Tryz.func189 rfl rfl (by simp) ?_;refine bJ ?_;intro b4 w4 hh;refine a0 hh (hfw _) rfl ?_;intro w8 hh;refine bJ ?_;intro ws hh;exact QD):p:=h
theorem RF {p:Prop} (h:p:=by
  refine aj ?_;refine GV ?_;refine bU ?_;intro b5 w5 hh ws hh;refine a0 hh (dr a _) rfl ?_;intro w14 hh;generalize a.i.sign=g at*;refine aj ?_;refine ⟨⟨i+1,g,ZB,rfl,rfl,hs0,ZB,ZB,hh.sub (aaJ _)⟩,by show n-(i+1)<n-i;omega, ?_⟩;exact dh):p:=h
theorem Sr {p:Prop} (h:p:=by
  refine bU ?_;intro b4 w4 hh ws hh;refine zF ?_;intro w13 hh;refine aj ?_;replace hh:=hh.sub (ZJ _ (ZI _ Z4));exact SG):p:=h
theorem SZ {p:Prop} (h:p:=by
  refine Na ?_;refine bU ?_;intro b2 w2 hh b4 w4 hh;refine a0 hh (hfw _) rfl ?_;intro w7 hh;refine aj ?_;refine ze ?_;refine aj ?_;refine a0 hh (han _ _ hh.below (hh.dA (i:=1) (o:=0) rfl rfl)) rfl ?_;intro w12 hh;refine bJ ?_;intro ws hh;exact QD):p:=h
theorem Sh {p:Prop} (h:p:=by
  refine dY ?_;refine eU (i:=5) ZD rfl ?_;refine bk (vs:=[_,_]) aC.out rfl (hh.dy (f:=FX.cells) (x:=y) (l:=[x,y]) (i:=0) rfl FX.len ZC hy0) rfl ZC ?_;exact VW):p:=h
theorem SX {p:Prop} (h:p:=by
  refine ae (N:=23) (l:=[.int .i64 i,.agg s.cells.toArray,.pointer (some p)]) Tryz.func108 rfl rfl (by simp) ?_;refine bU ?_;intro b4 w4 hh b5 w5 hh;refine DV ?_;refine aj ?_;refine DV ?_;refine aj ?_;refine SN rfl rfl ZB ZC ?_;refine aj ?_;refine L3 rfl rfl ZC ?_;rw [hm2];exact vI):p:=h
theorem Tb {p:Prop} (h:p:=by
  by_cases hx0:X=0
  ·obtain ⟨rfl,rfl⟩:=heq hx0;rw [hX0.2 hx0] at hsx;refine a0 hh (hsh _) rfl ?_;intro w25 hh;refine bJ ?_;intro ws hh;refine a0 hh (hsx _) rfl ?_;intro w32 hh;refine bJ ?_;intro ws hh;exact Yz
  ·obtain ⟨rfl,hl⟩:=hne hx0;have hs0:¬(nR X).i.sign=0:=fun h=>hx0 (hX0.1 h);generalize (nR X).i.sign=sg at*;refine a0 hh (hsh _) rfl ?_;intro w25 hh;refine bJ ?_;intro ws hh;refine a0 hh (hsx _) rfl ?_;intro w32 hh;rw [←hl];refine aj ?_;exact Yz):p:=h
theorem Sb {p:Prop} (h:p:=by
  have hil:i<l.length:=ZB;have hE:=hedge i hil;have ho:l.toArray[i]?=some l[i]:=by simp [hil]
  rw [ho] at hE;have hmem:i∈Region.ready .any l.toArray L:=(hready_spec i).2 ⟨hil,by
   have h3:i<L.size:=by rw [hI.ls,hnn];exact hil
   rw [aa2] at hu ⊢;rw [ab5 h3] at hu ⊢;simpa using hu,l[i],ho,fun e he hb=>by
   have:=ac9.1 hE e he;simp only [hb,acz,aaq,aad] at this;exact hlow _ this⟩
  rw [hnil] at hmem
  cases hmem):p:=h
theorem vt {p:Prop} (h:p:=by
  refine ⟨⟨i+1,ZB,rfl,hh⟩,by show n-(i+1)<n-i;omega, ?_⟩;exact dh):p:=h
theorem Tq {p:Prop} (h:p:=by
  refine fO rfl rfl ZC ?_;refine aj ?_;refine LN ?_;refine aj ?_;refine Nw ?_;intro ws hh;simp only [ZP] at hh;rw [hand,es,Z8,cw (by rw [hll];omega),ri,←b1,hfk] at hh;refine aj ?_;refine np (s:=1) (m:=2) rfl rfl ZC ZC ZC ?_;refine aj ?_;rw [es];refine ⟨⟨i+1,ZB,rfl,by rw [b2];rfl,hh⟩,by show K-(i+1)<K-i;omega, ?_⟩;exact dh):p:=h
theorem Mo {p:Prop} (h:p:=by
  refine aj ?_;refine GV ?_;refine a0 hh (hs _) rfl ?_;intro w18 hh;refine aj ?_;refine GV ?_;refine a0 hh (hs _) rfl ?_;intro w27 hh;refine aj ?_;refine ⟨⟨i+1,ZB,rfl,by rw [t1];rfl,by rw [t2];rfl,hh⟩,by show f.m-(i+1)<f.m-i;omega, ?_⟩;exact dh):p:=h
theorem Si {p:Prop} (h:p:=by
  refine dY ?_;refine jG 3 ZC ZD ZC ZD ZD ?_;refine gE hh 2 [_,_] ?_;intro ws hh;replace hh:Hp _ (_::_::.blk _ _ [_,_] _::_) _:=hh;refine aB (aN (xz ?_));refine Kg (bH rfl (bG (vs:=[_,_]) aC.out (hh.aK (i:=3) (n:=2) rfl rfl) rfl) (bH rfl (bG (vs:=[_,_]) aC.out (hh.aK (i:=2) (n:=2) rfl rfl) rfl) (dL (lV rfl) cV))) ?_;exact ⟨rfl,hh.below⟩):p:=h
theorem SU {p:Prop} (h:p:=by
  refine aj ?_;refine N2 ?_;refine cj ?_;refine q7 ?_;refine lY ?_;refine dG (dR ?_);refine dG (cj ?_);refine dG (jK (i) ?_);refine dG (nu [_,_,_] (fun _ hj=>(hr.ext hj.hp.below).recAt NR.len hx) ?_);refine dG (df 0 [_,_,_] ?_);refine au ?_;intro f W hJ hV;have hb_5:=hJ.bl;obtain ⟨v19,v18,v17,v16,v15,v14,v13,v12,_⟩:=hV;replace hh:=hJ.hp;refine Lt ?_;dsimp only [bf];clear hJ;refine aj ?_;refine a0 hh (hpc _) rfl ?_;intro w20 hh;refine aj ?_;refine ⟨⟨i+1,_,ZB,rfl,hS3.symm,hSz,hh⟩,by show n-(i+1)<n-i;omega, ?_⟩;exact dh):p:=h
theorem S5 {p:Prop} (h:p:=by
  rw [ZH h0] at hS3;refine aj ?_;refine N2 ?_;refine cj ?_;refine q7 ?_;refine lY ?_;refine dS (dS (dS (dS (dS ?_))));refine au ?_;intro f W hJ hV;have hb_5:=hJ.bl;obtain ⟨v19,v18,v17,v16,v15,v14,v13,v12,_⟩:=hV;replace hh:=hJ.hp;refine Lt ?_;dsimp only [bf];clear hJ;exact S0):p:=h
theorem R6 {p:Prop} (h:p:=by
  refine aw 13 [[(2,none)],[(24,some 0)],[(2,none)],[(26,some 2)],[(3,none)],[(28,some 4)],[(27,some 3),(29,some 5)],[(25,some 1),(30,some 6)],[(3,none)],[(32,some 8)],[(31,some 7),(33,some 9)],[(3,none)],[(35,some 11)]] [(12,36),(11,35),(10,34),(9,33),(8,32),(7,31),(6,30),(5,29),(4,28),(3,27),(2,26),(1,25),(0,24)] hh mixed ZD ?_;refine cK ?_;refine df 2 [_,_] ?_;refine cK ?_;refine ee 2 ?_;refine cK ?_;refine ee 1 ?_;refine s7 ?_;refine dC (fun _ hj=>hshl _) ?_;refine cK ?_;refine df 1 [_,_] ?_;refine dC (fun _ hj=>hpl _) ?_;refine cK ?_;refine ee 1 ?_;refine au ?_;intro f W hJ hV;have hb_8:=hJ.bl;obtain ⟨v36,v35,v34,v33,v32,v31,v30,v29,v28,v27,v26,v25,v24,_⟩:=hV;replace hh:=hJ.hp;refine az (aH (aa v36 (aa v35 (aa v34 (aa v33 (aa v32 (aa v31 (aa v30 (aa v29 (aa v28 (aa v27 (aa v26 (aa v25 (aa v24 ay)))))))))))))) ?_;dsimp only [bf];clear hJ;refine a0 hh (hmk _) rfl ?_;intro w37 hh;exact vI):p:=h
theorem Ei {p:Prop} (h:p:=by
  refine g6 (hc _ hh.below) ak.out rfl rfl ZC ?_;rintro e_ w16 ⟨rfl,hb_⟩;refine ⟨_,rfl, ?_⟩;replace hh:=hh.ext hb_;refine aj ?_;refine ⟨⟨i+1,ZB,rfl,by rw [al hz,abK,hall,abT,abV,gz];rfl,hh⟩,by show n-(i+1)<n-i;omega, ?_⟩;exact dh):p:=h
theorem SC {p:Prop} (h:p:=by
  refine aj ?_;refine N2 ?_;refine cj ?_;refine q7 ?_;refine lY ?_;refine dG (dR ?_);refine dG (cj ?_);refine dG (jK (i) ?_);refine dG (nu [_,_,_] (fun _ hj=>(hr.ext hj.hp.below).recAt NR.len hx) ?_);refine dG (df 0 [_,_,_] ?_);refine au ?_;intro f W hJ hV;have hb_5:=hJ.bl;obtain ⟨v19,v18,v17,v16,v15,v14,v13,v12,_⟩:=hV;replace hh:=hJ.hp;refine Lt ?_;dsimp only [bf];clear hJ;refine aj ?_;refine a0 hh (hpc _) rfl ?_;intro w20 hh;exact S0):p:=h
theorem SY {p:Prop} (h:p:=by
  refine dY ?_;refine eU (i:=8) ZD rfl ?_;refine g6 (hsm _ (hT.hp hh)) ak.out rfl rfl ZC ?_;rintro e_ w41 ⟨rfl,hb_⟩;refine ⟨_,rfl, ?_⟩;replace hh:=hh.ext hb_;refine dY ?_;refine eU (i:=9) ZD rfl ?_;refine C5 ?_;intro b42 w42 hh;refine dY ?_;refine eU (i:=10) ZD rfl ?_;refine oM ?_;intro A43 c43 w43 hh;simp only [ZP,aaf] at hh;replace hh:=hh.sub (aan _ _);refine dY ?_;refine jG 15 ZC ZD ZC ZD ZD ?_;refine aj ?_;replace hh:=hh.sub (ZI _ Z4);refine ⟨⟨_,n-1,c-1,X,_,m-1,c2-1,Y,O++[⟨x.m,nR (x.c.d+y.c.d)⟩],A43,c43,rfl,rfl, ?_,ZB,ZB,hSt,hSt2,hmg.both h1 h2 hk, ?_⟩,by show (n-1)+(m-1)<n+m;omega, ?_⟩
  ·exact W5
  ·rw [ZS,bp];exact hh
  ·exact dh):p:=h
theorem TW {p:Prop} (h:p:=by
  refine aj ?_;refine aD [4,5,11,12,13,14,15,16,17,18,19,20,21,22,23,24,25] 5
   (fun v w'=>∃i:Nat,i≤n∧v=.int .i64 i∧Hp w [] w')
   (fun v _=>n-(intOf v).toNat) ?_ ?_
  ·exact ⟨0,ZK _,rfl,hh⟩
  ·clear hh;rintro ρ' v w' ⟨i,hi,rfl,hh⟩;by_cases hlt:i<n
   ·obtain ⟨s,hs⟩:=ah (l:=b) (k:=i) ZB;obtain ⟨ad,rfl,hr⟩:=hS.at_ ZB;obtain ⟨ad2,rfl,hr2⟩:=hS2.at_ ZB;refine aj ?_;refine Nk ?_;refine dR ?_;refine cj ?_;refine jK (i) ?_;refine nu [_,_,_] (fun _ hj=>(hr.ext hj.hp.below).recAt NR.len hs) ?_;refine dR ?_;refine cj ?_;refine jK (i) ?_;refine nu [_,_,_] (fun _ hj=>(hr2.ext hj.hp.below).recAt NR.len hs) ?_;refine au ?_;intro f W hJ hV;have hb_6:=hJ.bl;obtain ⟨v24,v23,v22,v21,v20,v19,v18,v17,_⟩:=hV;replace hh:=hJ.hp;refine NX ?_;dsimp only [bf];clear hJ;refine Ax rfl rfl (by first|assumption|rfl) ZC ?_;refine aj ?_;refine ⟨⟨i+1,ZB,rfl,hh⟩,by show n-(i+1)<n-i;omega, ?_⟩;exact dh
   ·refine aj ?_;exact ⟨rfl,hh.below⟩):p:=h
theorem Sf {p:Prop} (h:p:=by
  obtain ⟨hq1,hI2⟩:=Jl b1 ZB ZB hI hb;have hqd:(q+18446744073709551616-1) % 18446744073709551616=q-1:=ZB;have hrd:(rh+y1) % 18446744073709551616=rh+y1:=ZB;by_cases hr2:4294967296≤rh+y1
  ·have hdn:=Fo b1 b0 hI2 ZB hr2;rw [←hyy] at hdn;by_cases hq:4294967296≤q
   ·exact TB
   ·have hqy:=hqy ZB;refine aj ?_;refine gD rfl rfl ZC ?_;refine aj ?_;refine gD (a:=4294967296) rfl rfl ZC ?_;refine aj ?_;refine fO rfl rfl ZC ?_;exact TB
  ·have hr3:rh+y1<4294967296:=ZB;by_cases hq:4294967296≤q
   ·exact Tm
   ·have hqy:=hqy ZB;refine aj ?_;refine gD rfl rfl ZC ?_;refine aj ?_;refine gD (a:=4294967296) rfl rfl ZC ?_;refine aj ?_;refine fO rfl rfl ZC ?_;exact Tm):p:=h
theorem Rt {p:Prop} (h:p:=by
  refine Ox ?_;refine aj ?_;have hokd:jL ns.reverse (l3 rr (n-1-a)):=by have:=T4 hla2 hd hok hr2 hrd2;rwa [hl1] at this
  obtain ⟨x2,hx2,hco2,z2,hlt2⟩:=hval _ hokd;have hsum:=fun w1=>oe (nR V) (nR x2) w1 (zV.ok ZB) (z2.ok ZB);rw [bE,bE] at hsum;have hat2:=hat _ hokd;have hbd:=Vl (ex:=x35) hrl ha hr h0 ZB;rw [ZH h0,hco2] at hup;generalize cU ns.reverse (l3 rr (n-1-a))=p2 at*;refine aj ?_;refine Ox ?_;refine qu (b:=1) rfl rfl ZB ZC ?_;refine aj ?_;refine xD hh (i:=1) (vs:=[_]) rfl rfl (cz rfl) rfl aC.out rfl (by rw [ZS,gI,hbl];omega) rfl ?_;intro ws hh;simp only [ZP,aaf] at hh;rw [show (r+256-1) % 256=r-1 by omega,hbd] at hh;refine aj ?_;refine aw 10 [[(9,none)],[(2,none)],[(69,some 1)],[(2,none)],[(71,some 3)],[(8,none)],[(73,some 5)],[(72,some 4),(74,some 6)],[(70,some 2),(75,some 7)],[(76,some 8)]] [(9,77),(8,76),(7,75),(6,74),(5,73),(4,72),(3,71),(2,70),(1,69),(0,68)] hh mixed ZD ?_;refine df 0 [_,_,_] ?_;refine cK ?_;refine ee 7 ?_;refine cK ?_;refine ee 7 ?_;refine dR ?_;refine aM (i:=6) (Is (.string ⟨((bS (l3 rr (n-1-a)).reverse)).toArray⟩)) Is.ext ?_ ?_
  ·exact XY
  refine dC (fun _ hj=>hat2 _ hj.hp.below) ?_;refine jK (p2) ?_;refine nu [_,_,_] (fun _ hj=>(s5.ext hj.hp.below).recAt NR.len hx2) ?_;refine au ?_;intro f W hJ hV;have hb_13:=hJ.bl;obtain ⟨v77,v76,v75,v74,v73,v72,v71,v70,v69,v68,_⟩:=hV;replace hh:=hJ.hp;refine az (aH (aa v77 (aa v76 (aa v75 (aa v74 (aa v73 (aa v72 (aa v71 (aa v70 (aa v69 (aa v68 ay))))))))))) ?_;dsimp only [bf];clear hJ;refine a0 hh (hsum _) rfl ?_;intro w78 hh;refine bJ ?_;intro ws hh;refine p6 ?_;intro b82 w82 hh;refine Hz ?_;intro A83 c83 w83 hh;simp only [ZP,aaf] at hh;replace hh:=hh.sub (aan _ _);refine bJ ?_;intro ws hh;replace hh:=hh.sub (ZJ _ (ZJ _ (ZI _ (ZI _ (ZI _ (ZI _ (ZI _ (ZI _ Z4))))))));refine ⟨⟨p+1,c83,A83,ZB,rfl, ?_⟩,by show ai (dW ns a)-(p+1)<ai (dW ns a)-p;omega, ?_⟩
  ·rw [al hup,aaG,bp];exact hh
  ·exact dh):p:=h
theorem S9 {p:Prop} (h:p:=by
  unfold pJ;rw [hsl,hgd,hns,acT,acj,aam]
  rfl):p:=h
theorem RE {p:Prop} (h:p:=by
  exact aat (Value.int IntKind.i64) (show (n:Int)-1=(n:Int)-1-(0:Nat) by omega)):p:=h
theorem Tl {p:Prop} (h:p:=by
  refine ⟨by grind,fun x hx=> ?_⟩
  rcases ZZ.1 hx with rfl|hx
  ·grind
  ·exact h2 x hx):p:=h
theorem TV {p:Prop} (h:p:=by
  have h1:=(FX.fv h0).2.2.1;have h2:=hg.ln.1;unfold FX.ns at h1;rw [ZY] at h1;omega):p:=h
theorem S6 {p:Prop} (h:p:=by
  rw [aa0 ZB,hl,aaz,abv,aa8,hx]):p:=h
theorem RQ {p:Prop} (h:p:=by
  exact k1 x (by simp only [ZZ,aaO,or_false] at hx ⊢;exact .inr (.inr hx))):p:=h
theorem Se {p:Prop} (h:p:=by
  have h1:bN m≠0:=fun h=>h0 (by rw [h,kt]);rw [ZX h1];exact ⟨rfl,hh.below⟩):p:=h
theorem LK {p:Prop} (h:p:=by
  refine aj ?_;exact ⟨by rw [ZX hg],hh.below⟩):p:=h
theorem Ln {p:Prop} (h:p:=by
  have:=hI.vs p.1 p.2 h1 (hall _ h1) h2;rw [h2];exact this):p:=h
theorem RD {p:Prop} (h:p:=by
  by_cases hjm:j=μ
  ·subst hjm;rw [eμ] at hu ⊢;exact hst u w1 w2 hu hv.1
  ·exact hsw j hjm u w1 w2 hu):p:=h
theorem KS {p:Prop} (h:p:=by
  exact ⟨0,0,ZK _,rfl,rfl,rfl,Nat.one_pos,hh⟩):p:=h
theorem TP {p:Prop} (h:p:=by
  rcases h with ⟨h|h,hb2⟩|h
  ·exact absurd (pN f hmem) h.1
  ·exact ⟨h.2.2,hb2⟩
  ·exact nomatch h.2.1):p:=h
theorem SA {p:Prop} (h:p:=by
  refine aj ?_;rw [Nat.sub_eq_zero_of_le ZB,Z3 ZB,kt];exact ⟨rfl,hh.below⟩):p:=h
theorem Tu {p:Prop} (h:p:=by
  refine aj ?_;rw [←hcut,ZS,Z1,aaT ZB];exact ⟨rfl,hh.below⟩):p:=h
theorem Sp {p:Prop} (h:p:=by
  have h1:bN m=0:=by rw [←kt] at h0;exact Ga h0
  rw [Z3 ZB];exact ⟨rfl,hh.below⟩):p:=h
theorem R4 {p:Prop} (h:p:=by
  induction xs generalizing ys c with
  |nil=>exact Dg.nil
  |cons x xs ih=>exact Dg.cons (aab _ hB) (ih _ _)):p:=h
theorem Tw {p:Prop} (h:p:=by
  intro ρ1 w1 hj hR;exact let ⟨g,u,e1,e2⟩:=hR.1;dm rfl (ej (vs:=[_,_]) e1 rfl) ⟨Below.refl _ _,rfl⟩):p:=h
theorem Mh {p:Prop} (h:p:=by
  refine aj ?_;exact ⟨by rw [Z3 ZB],hh.below⟩):p:=h
theorem TE {p:Prop} (h:p:=by
  rw [show (18446744073709551616:Nat)=2^64 from rfl,←aax];exact aao ZB ZB):p:=h
theorem KK {p:Prop} (h:p:=by
  rw [jf ZB (gG ZB _ _),cN hbd]):p:=h
theorem RL {p:Prop} (h:p:=by
  unfold rI;rw [ZO (by rw [nO hab];omega),abx ZB,aal]):p:=h
theorem To {p:Prop} (h:p:=by
  rw [aaz,ac1,aal] at hh;refine aj ?_;exact ⟨_,rfl,hh.at_ (i:=0) rfl,hh.below⟩):p:=h
theorem Oq {p:Prop} (h:p:=by
  exact ⟨PX.nil,iz.err he,rfl,(hh.sub (aaJ _)).Nc⟩):p:=h
theorem Mx {p:Prop} (h:p:=by
  refine aj ?_;exact ⟨_,_,rfl,World.ownsRow_nil _ _ _ _,hh.below⟩):p:=h
theorem Th {p:Prop} (h:p:=by
  exact aat (Value.int IntKind.i64) (show (n:Int)-1-(k:Int)-1=(n:Int)-1-((k+1:Nat):Int) by omega)):p:=h
theorem SK {p:Prop} (h:p:=by
  intro ρ1 w1 hj hR;exact let ⟨g,u,e1,e2⟩:=hR.1;dm rfl (ej (vs:=[_,_]) e1 rfl) ⟨Below.refl _ _,g,u,rfl,e2⟩):p:=h
theorem W5 {p:Prop} (h:p:=by
  show Value.slice _ (O.length+1) _=Value.slice _ (O++[(⟨x.m,nR (x.c.d+y.c.d)⟩:TR)]).length _;rw [ZS]
  rfl):p:=h
theorem RN {p:Prop} (h:p:=by
  have:=wT n zc;rw [hzl] at this;unfold madeCells;rw [hzc];have e2:zc.toArray.size=sz:=by simpa using hzl
  rw [e2,this]):p:=h
theorem HL {p:Prop} (h:p:=by
  rw [hd] at h1;rw [hd];exact ⟨_,_,rfl,h1,hh.below⟩):p:=h
theorem Tr {p:Prop} (h:p:=by
  rw [h3 a ZQ,ZH (fun s hs=>by
   obtain ⟨c,hc,rfl⟩:=ZU.1 hs;exact h3 c (Z0 _ hc))]):p:=h
theorem SF {p:Prop} (h:p:=by
  refine aj ?_;refine uk bj.out bj.out bj.out rfl (hh.ar (i:=0) rfl) ZC ?_;refine aj ?_;exact ⟨rfl,hh.below⟩):p:=h
theorem So {p:Prop} (h:p:=by
  unfold Program.cellsOf at hc
  cases hi:P.info? fd.type with
  |none=>simp [hi] at hc
  |some i=>exact ⟨i,rfl,by simpa [hi] using hc⟩):p:=h
theorem K8 {p:Prop} (h:p:=by
  cases rest with
  |nil=>simp at hlen;omega
  |cons x r=>exact ⟨x,r,rfl⟩):p:=h
theorem NM {p:Prop} (h:p:=by
  have:=hready (k-m) ZB;rwa [show m+(k-m)=k by omega] at this):p:=h
theorem Tt {p:Prop} (h:p:=by
  refine bU ?_;intro b2 w2 hh b3 w3 hh;refine a0 hh (mK a b _ (hT.hp hh) ha hb) rfl ?_;intro w7 hh;refine aj ?_;rw [e1];exact ⟨rfl,hh.below⟩):p:=h
theorem TF {p:Prop} (h:p:=by
  simp only [execOp,resolve,invoke,builtin,Sem.run_bind,Sem.run_pure,Result.andThen_ok,acW,aaj,aaC,hs,hx,hr]):p:=h
theorem TU {p:Prop} (h:p:=by
  have h2:=hD (i+1) e (by simpa using he);refine ⟨h2.1,fun t ht=> ?_⟩;have h3:=h2.2 t (ma t ht);rwa [show j+1+i=j+(i+1) by omega]):p:=h
theorem SV {p:Prop} (h:p:=by
  have hj:=(ZV.1 hd).1;rw [pb,ab2,hd];unfold nK;rw [ZW,aaP hj]
  rfl):p:=h
theorem Ik {p:Prop} (h:p:=by
  rw [ho] at ho';injection ho' with ho';subst ho';exact hed):p:=h
theorem S1 {p:Prop} (h:p:=by
  refine ⟨ZB, ?_⟩;by_cases hc:x0+2^i*(x1 % 2)<y0+2^i*(y1 % 2)
  ·rw [ZH hc];rw [hlt] at hc;omega
  ·rw [ZG hc];rw [hlt] at hc;omega):p:=h
theorem Ww {p:Prop} (h:p:=by
  unfold tT;rw [ZG ZB,ZH];exact abg.2 ⟨(d,e),ZL (i:=i) (by rw [acU];exact ⟨hd,he⟩),hb⟩):p:=h
theorem Ut {p:Prop} (h:p:=by
  rw [ac2];exact ⟨fun h=>by unfold NR.d;rw [h];rfl,tU⟩):p:=h
theorem Vq {p:Prop} (h:p:=by
  rcases abp n with h|h
  ·exact h
  ·obtain ⟨_,h1,_⟩:=hS.2 h;cases h1):p:=h
theorem V6 {p:Prop} (h:p:=by
  refine Cw (bH rfl (bG (vs:=[_,_,_,_,_,_]) aC.out (hh.aK (i:=6) (n:=6) rfl rfl) rfl) (dL (ep rfl) cV)) ?_;exact ⟨rfl,hh.below⟩):p:=h
theorem Pr {p:Prop} (h:p:=by
  refine aj ?_;exact ⟨by rw [ZH (.inl ZB)],hh.below⟩):p:=h
theorem UA {p:Prop} (h:p:=by
  simp [execOp,hx,hy,Instr.storeAt,Instr.sureAddr,storeVar,fL ht,hl,hc,hr]):p:=h
theorem U5 {p:Prop} (h:p:=by
  obtain ⟨y,hy,hyb⟩:=aa5.1 hm;have:=(eL (hs.own y hy) hyb).2;omega):p:=h
theorem T2 {p:Prop} (h:p:=by
  show (UInt8.ofNat ((r:Int)).toNat).toNat=r;rw [abc,acP];omega):p:=h
theorem Wi {p:Prop} (h:p:=by
  cases base2 with
  |none=>exact run_firstCells_none w.drew i.size 0 0 0
  |some a2=>exact run_firstCells_some w.drew i.size 0 a2 0 0 [] (by simp) (fun j u hu=>by simp at hu)):p:=h
theorem Xi {p:Prop} (h:p:=by
  refine aj ?_;refine ld ?_;refine aj ?_;rw [hbad (by simp [cH];omega),ZH rfl];exact ⟨rfl,hh.below⟩):p:=h
theorem QU {p:Prop} (h:p:=by
  exact ⟨none,0,rfl,World.ownsRow_nil _ _ _ _,hh.below⟩):p:=h
theorem WT {p:Prop} (h:p:=by
  refine aj ?_;refine bF aC.out rfl (la hr (bB hx) rfl) ZC ?_;refine aj ?_;obtain ⟨e1,e2⟩:=Ue hx (by simp [cH];omega);rw [e1,e2];exact ⟨rfl,hh.below⟩):p:=h
theorem Wg {p:Prop} (h:p:=by
  refine bJ ?_;intro ws hh;refine Cw (bH rfl (bG (vs:=[_,_,_,_,_,_]) aC.out (hh.aK (i:=1) (n:=6) rfl rfl) rfl) (dL (ep rfl) cV)) ?_;exact ⟨rfl,hh.below⟩):p:=h
theorem WM {p:Prop} (h:p:=by
  refine ae (N:=49) (l:=[.agg #[.slice f.A f.n f.a,.slice f.B f.m f.b]]) Tryz.func6 rfl rfl (by simp) ?_;refine bJ ?_;intro b1 w1 hh;exact ⟨_,rfl,fun h=>(by cases h),hh.below⟩):p:=h
theorem Ob {p:Prop} (h:p:=by
  rw [ZW,aaP ZB]
  rfl):p:=h
theorem VD {p:Prop} (h:p:=by
  refine bJ ?_;intro ws hh;refine rf ?_;exact .inl ⟨.inl ⟨h0,rfl⟩,hh.below⟩):p:=h
theorem Wa {p:Prop} (h:p:=by
  have e1:(O++X++Y).length=O.length+n+m:=by rw [ZS,ZS];omega
  exact ⟨O++X++Y,A74,c74,hd,by rw [e1],by rw [e1,bp,bp];exact hh⟩):p:=h
theorem VJ {p:Prop} (h:p:=by
  refine sZ bj.out rfl ZC ?_;refine mI ?_;refine Ib rfl rfl ZC ?_;refine aj ?_;rw [ZO (by rw [←eS];omega)] at hm;rw [hm];exact ⟨rfl,Below.refl _ _⟩):p:=h
theorem VS {p:Prop} (h:p:=by
  refine ae (N:=58) (l:=[.agg #[.int .i64 v,.slice A n c]]) Tryz.func65 rfl rfl (by simp) ?_;refine bJ ?_;intro b1 w1 hh;refine a0 hh (hfw _) rfl ?_;intro w7 hh;refine aj ?_;exact ⟨rfl,hh.below⟩):p:=h
theorem WV {p:Prop} (h:p:=by
  rw [htk,hpt,hsd] at htc;refine aq (htc) ak.out rfl ZC ?_;rintro e_ w_ ⟨rfl,hh⟩;refine ⟨_,rfl, ?_⟩;refine aj ?_;exact ⟨rfl,hh.sub (.cons_cons _ (.cons _ (.cons _ (aay _))))⟩):p:=h
theorem Wl {p:Prop} (h:p:=by
  intro ρ1 w1 hj hR;exact dm rfl (ij (l:=(bS rr.reverse)) bj.out bj.out bj.out (show ρ1 52=Value.slice _ _ _ from hR.1) (hj.hp.KX (i:=1) rfl (hbl.trans e1.symm))) ⟨Below.refl _ _,rfl⟩):p:=h
theorem UQ {p:Prop} (h:p:=by
  refine ae (N:=9) (l:=[.int .i64 v]) Tryz.func114 rfl rfl (by simp) ?_;refine aj ?_;exact ⟨rfl,hh.below⟩):p:=h
theorem Wr {p:Prop} (h:p:=by
  rw [hu];refine bJ ?_;intro ws hh;refine DD ?_;rw [ZO ZB] at hS2;rw [hS2];exact ⟨rfl,hh.below⟩):p:=h
theorem WZ {p:Prop} (h:p:=by
  refine bJ ?_;intro ws hh;refine pP ?_;exact ⟨PX.nil,iz.err he0,rfl,(hh.sub (aaJ _)).Nc⟩):p:=h
theorem WJ {p:Prop} (h:p:=by
  refine bJ ?_;intro ws hh;refine rf ?_;exact .inl ⟨.inr ⟨h0,by rw [hr1];decide,by rw [hr1];rfl⟩,hh.below⟩):p:=h
theorem WQ {p:Prop} (h:p:=by
  refine bJ ?_;intro ws hh;refine rf ?_;exact .inl ⟨.inr ⟨h0,by rw [hrz];decide,by rw [hrz];rfl⟩,hh.below⟩):p:=h
theorem XY {p:Prop} (h:p:=by
  intro ρ1 w1 hj hR;exact dm rfl (ij (l:=(bS (l3 rr (n-1-a)).reverse)) bj.out bj.out bj.out (show ρ1 73=Value.slice _ _ _ from hR.1) (hj.hp.KX (i:=1) rfl (hbl2.trans e1.symm))) ⟨Below.refl _ _,rfl⟩):p:=h
theorem Wj {p:Prop} (h:p:=by
  rw [hod2] at ho;refine aj ?_;refine ze ?_;refine aj ?_;refine a0 hh (ho _ (Below.refl _ _)) rfl ?_;intro w24 hh;exact KM):p:=h
theorem VM {p:Prop} (h:p:=by
  have hr0:rest=[]:=abl ZB;subst hr0;refine aj ?_;refine Qu (by first|exact .inr rfl|exact .inl rfl) rfl  ?_;rw [aal,ig,aal] at*;rw [←heq];exact ⟨rfl,hh⟩):p:=h
theorem WO {p:Prop} (h:p:=by
  refine Kg (bH rfl (bG (vs:=[_,_,_,_,_,_,_,_]) aC.out (hh.aK (i:=1) (n:=8) rfl rfl) rfl) (dL (ep rfl) (dL (ep rfl) cV))) ?_;exact Nf):p:=h
theorem UL {p:Prop} (h:p:=by
  refine aj ?_;refine rj ?_;refine aj ?_;exact ⟨by rw [hc],hh.below⟩):p:=h
theorem Wy {p:Prop} (h:p:=by
  have h1:(Op.equal 33 (.agg #[.bool s,.string a,.int .i64 e]) (.agg #[.bool s',.string a',.int .i64 e'])).run Tryz.prog w=.ok r w:=by rw [←hr];exact KT 9997 s s' a a' e e' w
  simp only [execOp,hx,hy];simp [eqGuard,binOp,h1]):p:=h
theorem Wt {p:Prop} (h:p:=by
  simp only [ZZ,aaO,or_false] at k2
  rcases k2 with rfl|rfl|rfl|rfl
  ·exact abk _ m1
  ·exact abk _ m2
  ·exact aaD _ (by simp)
  ·exact aaD _ (by simp)):p:=h
theorem UE {p:Prop} (h:p:=by
  intro ρ1 w1 hj hR;exact let ⟨g,u,e1,e2⟩:=hR.1;dm rfl (ej (vs:=[_,_,_]) e1 rfl) ⟨Below.refl _ _,g,u,rfl,e2⟩):p:=h
theorem Xj {p:Prop} (h:p:=by
  rw [hod2] at ho;refine aj ?_;refine ze ?_;refine aj ?_;refine a0 hh (ho _ (Below.refl _ _)) rfl ?_;intro w24 hh;refine aj ?_;refine ⟨?_,hh.below⟩;rw [ZG];rintro (h|h)
  ·omega
  ·cases h):p:=h
theorem V8 {p:Prop} (h:p:=by
  have h1:M<256^(aO 256 M).length:=m6 ZB M;rw [ON ZB h1,aaz,ac1,aal,Ku (fun d hd=>(er (B:=256) ZB M).1 d (abX.1 hd)),sb,List.map_reverse]):p:=h
theorem WY {p:Prop} (h:p:=by
  rintro e a' w' ⟨ρ',hf',hq⟩;have e1:(fun i=>a.tmps.getD i undef)=ρ:=funext hf.at_;have e2:(fun i=>a'.tmps.getD i undef)=ρ':=funext hf'.at_
  cases e with
  |normal=>exact ⟨⟨ρ',hf',hq.1⟩,by rw [e1,e2];exact hq.2⟩
  |_=>exact ⟨ρ',hf',hq⟩):p:=h
theorem V4 {p:Prop} (h:p:=by
  refine bJ ?_;intro ws hh;refine Kg (bH rfl (bG (vs:=[_,_,_,_,_,_,_,_]) aC.out (hh.aK (i:=2) (n:=8) rfl rfl) rfl) (dL (ep rfl) (dL (ep rfl) cV))) ?_;exact Nf):p:=h
theorem VE {p:Prop} (h:p:=by
  have h1:z.natAbs=y.natAbs*2^j:=by rw [←hyz,abH,ab7];rfl
  have h2:y.natAbs*1≤y.natAbs*2^j:=aah _ (aak ZB);have h3:bg y.natAbs≤8*a.size:=di ZB;rw [j5];omega):p:=h
theorem VN {p:Prop} (h:p:=by
  rw [al hx,aaG,acb];by_cases h0:i=0
  ·subst h0;rw [ZH rfl];rfl
  ·rw [ZG h0,u7 _ (by intro h;have h5:=aat List.length h;rw [ZY,Z1,aca] at h5;omega),←hS2];simp):p:=h
theorem Ra {p:Prop} (h:p:=by
  rw [aa2] at hun ⊢;rw [ab5 hiL] at hun ⊢;simpa using hun):p:=h
theorem T9 {p:Prop} (h:p:=by
  refine ack fun hn=>hall fun i hi=> ?_
  cases hc2:L.getD i false with
  |true=>rfl
  |false=>exact absurd ⟨i,hi,hc2⟩ hn):p:=h
theorem Ud {p:Prop} (h:p:=by
  refine full L a w (fuel+1) hI hall ?_;have hL:L=jW l.length m:=uT (by rw [hI.ls,hnn]) hml hall hI.tl;rw [hL,FY] at hc;omega):p:=h
theorem VV {p:Prop} (h:p:=by
  cases B with
  |none=>exact run_append_nothing w t t ty e i ht hi _ 0 0 (ZM _) _ (Src.ofNil w ht c')
  |some ad=>exact run_append_nothing w t t ty e i ht hi _ 0 0 (ZM _) _ (Src.ofSlice w ht ad 0 c' [] (by simp) (fun j u hu=>by simp at hu) (fun u hu=>by cases hu))):p:=h
theorem Up {p:Prop} (h:p:=by
  intro ρ1 w1 hj hR;exact bI rfl (a8 ak.out (av rfl (av rfl bh))) (uF 1 0 P1 _ rfl) (fun _ _ ⟨v,hq,hp,hb⟩=>⟨v,hq,hb,hp⟩)):p:=h
theorem PE {p:Prop} (h:p:=by
  exact ZF):p:=h
theorem UR {p:Prop} (h:p:=by
  refine bJ ?_;intro ws hh;refine Hj (bH rfl (bG (vs:=[_,_,_,_,_,_]) aC.out (hh.aK (i:=1) (n:=6) rfl rfl) rfl) cV) ?_;exact ⟨rfl,hh.below⟩):p:=h
theorem K1 {p:Prop} (h:p:=by
  rcases fs with _|⟨g,l⟩
  ·cases h00
  ·have:g=f0:=by simpa using h00
   rw [←this];rfl):p:=h
theorem UC {p:Prop} (h:p:=by
  refine ae (N:=12) (l:=[.slice A n c]) Tryz.func137 rfl rfl (by simp) ?_;refine aj ?_;refine a0 hh (hc _ hh.below) rfl ?_;intro w5 hh;refine aj ?_;exact ⟨rfl,hh.below⟩):p:=h
theorem Wh {p:Prop} (h:p:=by
  have e2:ao TR.cells (jb l x)=[]++ao TR.cells (l.take i)++[.string x.m,.bool (nR x.c.d).neg,.string (nR x.c.d).aW,.int .i64 (nR x.c.d).e]++ao TR.cells (l.drop i):=by rw [hput,bp,iD,ZN,aam];rfl
  exact RW):p:=h
theorem VY {p:Prop} (h:p:=by
  have h16:¬2^24<len*sz:=ZB;have hf':=Aw _ _ _ hf;rw [←wT,hzl] at hf';have hzs:zc.toArray.size=sz:=by simpa using hzl
  have hp':=H8 parts hp;simp only [execOp,hp',Instr.buildSlice,Sem.run_bind,run_underlying ht,Result.andThen_ok,fL hte,gt_iff_lt,ZG h16,ZG h0,hz,hzc,Sem.run_pure,hzs,hf'];simp [newRow]):p:=h
theorem Wm {p:Prop} (h:p:=by
  split at h
  ·rename_i f hf;have:=List.find?_some hf;simp at this;exact absurd h this
  ·rename_i hf;split at h
   ·cases h
   rename_i hno;refine ⟨fun e=>hno (.inl (by rw [e];rfl)),fun f hm=> ?_,fun f hm=> ?_⟩
   ·have:=List.find?_eq_none.1 hf f hm;simpa using this
   ·apply ack;intro hne;exact hno (.inr (abg.2 ⟨f,hm,ZX hne⟩))):p:=h
theorem Wq {p:Prop} (h:p:=by
  refine dY ?_;refine jG 4 ZC ZD ZC ZD ZD ?_;refine bJ ?_;intro ws hh;refine Kg (bH rfl (bG (vs:=[_,_]) aC.out (hh.aK (i:=2) (n:=2) rfl rfl) rfl) (bH rfl (bG (vs:=[_,_]) aC.out (hh.aK (i:=1) (n:=2) rfl rfl) rfl) (dL (lV rfl) cV))) ?_;exact ⟨_,_,rfl,hh.below⟩):p:=h
theorem Ol {p:Prop} (h:p:=by
  intro ρ1 w1 hj hR;exact let ⟨g,u,e1,e2⟩:=hR.1;dm rfl (fZ e1) ⟨Below.refl _ _,g,u,rfl,e2⟩):p:=h
theorem Xp {p:Prop} (h:p:=by
  by_cases ht:t<j
  ·rw [abf ZB] at hg';exact hup t f' g' hf' hg'
  ·have htl:=(ZV.1 hg').1;rw [ZS,hgl] at htl;obtain rfl:t=j:=by have:t<j+1:=htl;omega
   rw [aa0 ZB,hgl,aaz] at hg';rw [hx] at hf';obtain rfl:=aau hf';obtain rfl:g=g':=aau hg';exact hu):p:=h
theorem VT {p:Prop} (h:p:=by
  refine aj ?_;refine Ey ?_;refine aj ?_;refine Ex ?_;refine bJ ?_;intro ws hh;refine pP ?_;exact .inl ⟨.inr ⟨h0,by rw [hr1];decide,by rw [hr1];rfl⟩,hh.below⟩):p:=h
theorem Qx {p:Prop} (h:p:=by
  rw [ZO ZB] at hall;refine aj ?_;exact ⟨_,rfl,⟨fun h=>absurd h ZC,fun h=>by rw [hall] at h;cases h⟩,hh.below⟩):p:=h
theorem QK {p:Prop} (h:p:=by
  refine bJ ?_;intro ws hh;refine Hj (bH rfl (bG (vs:=[_,_,_]) aC.out (hh.aK (i:=1) (n:=3) rfl rfl) rfl) cV) ?_;exact ⟨rfl,hh.below⟩):p:=h
theorem Um {p:Prop} (h:p:=by
  have h3:=hdep (i-m) ZB;rw [show m+(i-m)=i by omega] at h3;have h4:(i-m==0)=false:=by simp;omega
  rw [h4,aaq] at h3;have:=iL hM hI.cl i m hed' h3;rw [hI.tl m (ZM _)] at this
  cases this):p:=h
theorem Vf {p:Prop} (h:p:=by
  refine ⟨hI.nd,hI.sz,fun s=> ?_⟩;by_cases hs:∃i,(i,s)∈ds
  ·obtain ⟨i,hi⟩:=hs;rw [(nw _ ds s hnd).1 i hi,(hdsm i s hi).2]
  ·rw [(nw _ ds s hnd).2 fun i hi=>hs ⟨i,hi⟩];exact hI.sV s fun i hi _ hd=>hs ⟨i,hpre i s hi hd⟩):p:=h
theorem JS {p:Prop} (h:p:=by
  refine aj ?_;refine a0 hh (rz _ (hT.hp hh)) rfl ?_;intro w42 hh;refine aj ?_;exact ⟨rfl,hh.below⟩):p:=h
theorem W9 {p:Prop} (h:p:=by
  simp only [bO];rw [←htake];have h5:o+vs.length≤m*sz:=ZB;have h6:m*sz≤cur.toList.length:=by rw [←hcl,hcur];exact hle
  rw [List.take_take,aaT ZB,List.drop_take,aam,aam,List.take_append,List.take_append];simp only [Z1,aaT (show o≤cur.toList.length by omega)];rw [ZO (l:=cur.toList.take o) (by simp;omega),ZO (l:=vs) ZB];congr 2;congr 1;omega):p:=h
theorem Xf {p:Prop} (h:p:=by
  by_cases hif:i∈fr
  ·obtain ⟨d,t,ty,pos,af,n,ag,by',zc,hi1,ht⟩:=hfr.at i hif;have ho2:o=⟨some d,.alloc t,ty,pos,af,none⟩:=by
    have h7:=ho;rw [abD,hi1] at h7;injection h7 with h7
    exact h7.symm
   have hds:d<a.tmps.size:=by
    rw [hI.sz];exact hdN (i,d) (hpre i d him (by rw [ho,ho2];rfl))
   subst ho2;exact MT ht hog a hds _ _ (fun _=>rfl) fun v w' hk hb=>hnext v w' hk fun _=>hb
  ·exact hog.out a _ _ (fun _=>rfl) fun v w2 hv=>hnext v w2 hv fun h=>absurd h hif):p:=h
theorem Od {p:Prop} (h:p:=by
  refine Hj (bH rfl (bG (vs:=[_,_,_,_,_,_]) aC.out (hh.aK (i:=0) (n:=6) rfl rfl) rfl) cV) ?_;exact ⟨rfl,hh.below⟩):p:=h
theorem P4 {p:Prop} (h:p:=by
  rw [hds,abX,aa5];refine ⟨(some d,i), ?_,rfl⟩;rw [List.mem_zipIdx_iff_getElem?];rw [ZW,aaP hi];simp only [abu,hd]):p:=h
theorem I3 {p:Prop} (h:p:=by
  intro ρ1 w1 hj hR;exact let ⟨g,u,e1,e2⟩:=hR.1;dm rfl (ej (vs:=[_,_,_]) e1 rfl) ⟨Below.refl _ _,rfl⟩):p:=h
theorem Xc {p:Prop} (h:p:=by
  refine dY ?_;refine jG 7 ZC ZD ZC ZD ZD ?_;refine bJ ?_;intro ws hh;refine ⟨⟨_,_,rfl,rfl,hh.sub (.cons_cons _ (.cons_cons _ (.cons_cons _ (aaJ _))))⟩, ?_⟩;repeat refine dH rfl ?_
  exact fun _ _=>rfl):p:=h
theorem We {p:Prop} (h:p:=by
  refine ⟨hJ.bl,fun x hx=> ?_, ?_⟩
  ·rcases ZZ.1 hx with rfl|hx
   ·exact o1
   ·obtain rfl:=aaa.1 hx;exact o2
  ·rw [abL];split
   ·exact Tv
   ·rename_i b1 hb1;refine abG.2 ⟨fun hm=> ?_, ?_⟩
    ·obtain ⟨y,hy,hyb⟩:=aa5.1 hm;obtain rfl:=aaa.1 hy;exact P7 o1 o2 h12 b1 hb1 hyb
    ·exact Tv):p:=h
theorem W7 {p:Prop} (h:p:=by
  have hJ0:J ({ w with drawn:=w.drawn+1 }:World):=hJ w _ h0 ⟨rfl,rfl,rfl,ZM _,fun _ _=>rfl⟩;have hr0:∀i,(Array.replicate l.toArray.size false).getD i false=false:=fun i=>by
   exact K0
  refine key _ _ _ _ ⟨hf.nd,hf.sz,hJ0,by simp,fun k o _ hk=> ?_,fun k _=>hr0 k,fun i d _ hi=> ?_,fun s _=>hf.at_ s,fun i _ hi=> ?_,fun i _ j _ _ hi=> ?_⟩ ?_
  ·rw [hr0] at hk;cases hk
  ·rw [hr0] at hi;cases hi
  ·rw [hr0] at hi;cases hi
  ·rw [hr0] at hi;cases hi
  ·simp [adm]):p:=h
theorem wF {p:Prop} (h:p:=by
  refine aj ?_;exact ⟨_,_,rfl,hh.at_ (i:=0) rfl,hh.below⟩):p:=h
theorem PK {p:Prop} (h:p:=by
  refine bJ ?_;intro ws hh;refine Hj (bH rfl (bG (vs:=[_,_,_]) aC.out (hh.aK (i:=1) (n:=3) rfl rfl) rfl) cV) ?_;rw [ZO ZB] at hS2;rw [hS2];exact ⟨rfl,hh.below⟩):p:=h
theorem WE {p:Prop} (h:p:=by
  refine M5 ?_;refine xQ ?_;intro b3 w3 hh b5 w5 hh b6 w6 hh b7 w7 hh;refine iF ?_;intro w12 hh;refine bU ?_;intro ws hh ws hh;refine TM ?_;exact ⟨hh.below,.inl ⟨by rw [hE];decide,by rw [hE];rfl⟩⟩):p:=h
theorem QJ {p:Prop} (h:p:=by
  have p1:=hpre i d hi h1;have p2:=hpre j d hj h2;have e1:=((nw (ρ:=ρ) (fun i=>.int .i64 i) ds d hnd).1 i p1).symm.trans ((nw (ρ:=ρ) (fun i=>.int .i64 i) ds d hnd).1 j p2);injection e1 with _ e1
  omega):p:=h
theorem Qc {p:Prop} (h:p:=by
  refine bJ ?_;intro ws hh;refine rf ?_;exact ⟨PX.nil,iz.err h0,rfl,(hh.sub (aaJ _)).Nc⟩):p:=h
theorem UZ {p:Prop} (h:p:=by
  refine LJ ?_;refine bJ ?_;intro b3 w3 hh;refine iF ?_;intro w12 hh;refine aj ?_;refine a0 hh (hbk _ (hT.hp hh) hh.below) rfl ?_;intro w17 hh;refine aj ?_;exact ⟨rfl,hh.below⟩):p:=h
theorem Vo {p:Prop} (h:p:=by
  exact ⟨g,og,rfl,hh.sub (ZI _ (aaJ _))⟩):p:=h
theorem Wp {p:Prop} (h:p:=by
  unfold ByteArray.toList;have:∀(n i:Nat) (r:List UInt8),s.size-i=n→ByteArray.toList.loop s i r=r.reverse++s.data.toList.drop i:=by
   intro n
   induction n with
   |zero=>
    intro i r h;rw [ByteArray.toList.loop,ZG ZB,abx (by rw [ac5];show s.size≤i;omega)];simp
   |succ n ih=>
    intro i r h;have hi:i<s.size:=ZB;rw [ByteArray.toList.loop,ZH hi,ih (i+1) _ ZB];have hi2:i<s.data.toList.length:=by rw [ac5];exact hi
    rw [abi hi2];have:s.get! i=s.data.toList[i]:=by
     show s.data[i]! =_;rw [getElem!_pos s.data i (by simpa using hi2)];simp
    simp [this]
  simpa using this (s.size-0) 0 [] rfl):p:=h
theorem Km {p:Prop} (h:p:=by
  refine bJ ?_;intro ws hh;exact R5):p:=h
theorem Pk {p:Prop} (h:p:=by
  refine g6 (hc _ hh.below) ak.out rfl rfl ZC ?_;rintro e_ w16 ⟨rfl,hb_⟩;refine ⟨_,rfl, ?_⟩;replace hh:=hh.ext hb_;refine aj ?_;exact ⟨_,rfl,⟨fun _=>abg.2 ⟨z,ZL hz,gz⟩,fun _=>by omega⟩,hh.below⟩):p:=h
theorem U0 {p:Prop} (h:p:=by
  simp only [Iz]
  rcases aap i l.length with hi|hi
  ·rw [aa2,Array.getElem?_append_left (by simpa using hi)];simp [aaK]
  ·rw [aa2,Array.getElem?_append_right (by simpa using hi)];simp only [aaK,Z5 hi,Option.getD_none,Array.getElem?_replicate];split<;>rfl):p:=h
theorem Qd {p:Prop} (h:p:=by
  rintro e_ w7 ⟨v_,rfl,hv_,hb_⟩;refine ⟨_,rfl, ?_⟩;replace hh:=hh.ext hb_
  cases ga:l.any p with
  |true=>
   have h0:=hv_.2 ga;refine aj ?_;exact ⟨rfl,hh.below⟩
  |false=>
   have h0:¬0≤v_:=fun h=>by rw [hv_.1 h] at ga;cases ga
   refine aj ?_;exact ⟨rfl,hh.below⟩):p:=h
theorem VX {p:Prop} (h:p:=by
  refine dY ?_;refine jG 3 ZC ZD ZC ZD ZD ?_;refine gE hh 3 [_,_] ?_;intro ws hh;replace hh:Hp _ (_::_::_::.blk _ _ [_,_] _::_) _:=hh;refine aB (aN (xz ?_));refine Kg (bH rfl (bG (vs:=[_,_]) aC.out (hh.aK (i:=4) (n:=2) rfl rfl) rfl) (bH rfl (bG (vs:=[_,_]) aC.out (hh.aK (i:=3) (n:=2) rfl rfl) rfl) (dL (lV rfl) cV))) ?_;exact ⟨rfl,hh.below⟩):p:=h
theorem QZ {p:Prop} (h:p:=by
  refine bJ ?_;intro ws hh;refine Cw (bH rfl (bG (vs:=[_,_,_]) aC.out (hh.aK (i:=0) (n:=3) rfl rfl) rfl) (dL (ep rfl) cV)) ?_;exact ⟨rfl,hh.below⟩):p:=h
theorem Vb {p:Prop} (h:p:=by
  intro L a w hI hc;have hall:∀i,i<l.length→L.getD i false=true:=fun i hi=>by
   exact Tj
  have hmn:l.length≤0+m:=by
   rcases aap m l.length with h|h
   ·have h1:=hall m h;rw [hI.tl m (ZM _)] at h1
    cases h1
   ·omega
  exact full L a w 0 hI (fun i hi=>hall i ZB) hmn):p:=h
theorem KL {p:Prop} (h:p:=by
  refine bJ ?_;intro ws hh;refine Ii ?_;exact ⟨g,og,rfl,hh.sub (ZI _ (aaJ _))⟩):p:=h
theorem VW {p:Prop} (h:p:=by
  refine dY ?_;refine jG 7 ZC ZD ZC ZD ZD ?_;refine bJ ?_;intro ws hh;refine Kg (bH rfl (bG (vs:=[_,_]) aC.out (hh.aK (i:=7) (n:=2) rfl rfl) rfl) (bH rfl (bG (vs:=[_,_]) aC.out (hh.aK (i:=6) (n:=2) rfl rfl) rfl) (dL (ep rfl) cV))) ?_;exact .inr ⟨h0,x,y,hx,hy,rfl,hh.sub ((acv [y.jM,y.jP,x.jM,x.jP] _).cons _)⟩):p:=h
theorem PQ {p:Prop} (h:p:=by
  rw [hds,abX,aa5] at hp;obtain ⟨⟨x,k⟩,hx,hxe⟩:=hp;rw [List.mem_zipIdx_iff_getElem?] at hx
  cases x with
  |none=>simp at hxe
  |some d'=>
   simp only [abu,abB,Prod.mk.injEq] at hxe;obtain ⟨rfl,rfl⟩:=hxe;rw [ZW] at hx
   cases hr:(List.range m)[k]? with
   |none=>rw [hr] at hx;simp at hx
   |some y=>
    have hkm:k<m:=by
     have:=(ZV.1 hr).1;simpa using this
    rw [aaP hkm] at hx;simp only [abu,abB] at hx;exact ⟨hkm,hx⟩):p:=h
theorem Eh {p:Prop} (h:p:=by
  refine tB (c:=cc) bj.out rfl rfl ZB hcc ZC ?_;skip;refine vw bj.out bj.out rfl ZB ZB ZC ?_;refine mN (aI (aN (xz ?_)));refine YQ ?_;refine ⟨?_,Below.refl _ _⟩;congr 2;rw [hcv];omega):p:=h
theorem sG {p:Prop} (h:p:=by
  refine bJ ?_;intro ws hh;exact Tn):p:=h
theorem QY {p:Prop} (h:p:=by
  unfold Region.ready;rw [abm,aaR,hnn];constructor
  ·rintro ⟨h1,h2⟩;have ho:l.toArray[i]?=some l[i]:=by simp [h1]
   rw [ho] at h2;simp only [abu,aa1,Z7,acJ] at h2;refine ⟨h1,h2.1,l[i],ho,fun e he hb=> ?_⟩;have:=ac9.1 h2.2 e he;simpa [hb] using this
  ·rintro ⟨h1,h2,o,ho,h3⟩;refine ⟨h1, ?_⟩;rw [ho];simp only [abu,aa1,Z7,acJ];refine ⟨h2,ac9.2 fun e he=> ?_⟩
   cases hb:Region.binds .any e with
   |false=>simp
   |true=>simpa [hb] using h3 e he hb):p:=h
theorem Yr {p:Prop} (h:p:=by
  refine SP ?_;refine df 1 [_,_] ?_;refine dC (fun _ hj=>hfm _) ?_;refine df 0 [_,_] ?_;refine au ?_;intro p_ hp_;simp only [ZZ,aaO,or_false] at hp_
  rcases hp_ with rfl|rfl
  ·intro f W hJ hV;have hb_10:=hJ.bl;obtain ⟨v49,v48,_⟩:=hV;simp only [il];have e48:f 0=_:=v48;rw [e48];have e49:f 1=_:=v49;rw [e49];replace hh:=hJ.hp;clear e48 e49 hJ;refine gE hh 1 [_,_] ?_;intro ws hh;replace hh:Hp _ (_::.blk _ _ [_,_] _::_) _:=hh;refine dY ?_;refine eU (i:=2) ZD rfl ?_;refine nB hh 0 [_,_] ?_;exact SJ
  ·intro f W hJ hV;have hb_10:=hJ.bl;obtain ⟨v50,v49,v48,_⟩:=hV;simp only [il];have e48:f 0=_:=v48;rw [e48];have e49:f 1=_:=v49;rw [e49];have e50:f 2=_:=v50;rw [e50];replace hh:=hJ.hp;clear e48 e49 e50 hJ;refine gE hh 1 [_,_] ?_;intro ws hh;replace hh:Hp _ (_::.blk _ _ [_,_] _::_) _:=hh;exact SJ):p:=h
theorem Yu {p:Prop} (h:p:=by
  refine lY ?_;refine dS (dS (dS (dU (dU (dU (dU ?_))))));refine Cp (i:=28) rfl (fun ρ1 w1 hj hR=>(show ρ1 44=undef from hR.2.2.1)) ?_;refine dU (dU (dU (dU ?_)));refine au ?_;intro f W hJ hV _;have hb_8:=hJ.bl;obtain ⟨v53,v52,v51,v50,v49,v48,v47,v46,v45,v44,v43,v42,v41,v40,v39,v38,v37,v36,v35,v34,v33,v32,v31,v30,v29,v28,v27,v26,v25,v24,v23,v22,v21,_⟩:=hV;replace hh:=hJ.hp;refine HA ?_;exact MB):p:=h
theorem Ye {p:Prop} (h:p:=by
  refine aj ?_;rw [hs];refine bU ?_;intro b6 w6 hh ws hh;refine aw 9 [[(6,none)],[(30,some 0)],[(2,none)],[(31,some 1),(32,some 2)],[(6,none)],[(34,some 4)],[(3,none)],[(35,some 5),(36,some 6)],[(6,none)]] [(8,38),(7,37),(6,36),(5,35),(4,34),(3,33),(2,32),(1,31),(0,30)] hh mixed ZD ?_;refine cK ?_;refine ee 0 ?_;refine df 3 [_,_,_] ?_;refine dC (fun _ hj=>hcx _ (hT.hp hj.hp)) ?_;refine cK ?_;refine ee 0 ?_;refine df 2 [_,_,_] ?_;refine dC (fun _ hj=>hcy _ (hT.hp hj.hp)) ?_;refine cK ?_;refine au ?_;intro f W hJ hV;have hb_8:=hJ.bl;obtain ⟨v38,v37,v36,v35,v34,v33,v32,v31,v30,_⟩:=hV;replace hh:=hJ.hp;refine az (aH (aa v38 (aa v37 (aa v36 (aa v35 (aa v34 (aa v33 (aa v32 (aa v31 (aa v30 ay)))))))))) ?_;dsimp only [bf];clear hJ;refine kb ?_;intro ws hh ws hh ws hh;refine Hj (bH rfl (bG (vs:=[_,_,_,_,_]) aC.out (hh.aK (i:=1) (n:=5) rfl rfl) rfl) cV) ?_;exact ⟨rfl,hh.below⟩):p:=h
theorem QD {p:Prop} (h:p:=by
  refine rf ?_;exact MN):p:=h
theorem Yn {p:Prop} (h:p:=by
  exfalso;have hmin:∀k,(∃i,i<k∧i<m∧L.getD i false=false)→∃i,i<m∧L.getD i false=false∧∀j,j<i→L.getD j false=true:=by
   intro k
   induction k with
   |zero=>rintro ⟨i,h,_⟩;omega
   |succ k ihk=>
    rintro ⟨i,h1,h2,h3⟩;by_cases hex:∃i,i<k∧i<m∧L.getD i false=false
    ·exact ihk hex
    ·exact Tc
  obtain ⟨i0,h1,h2⟩:=hsome;obtain ⟨i,hi,hu,hlow⟩:=hmin (i0+1) ⟨i0,ZB,h1,h2⟩;exact Sb):p:=h
theorem YE {p:Prop} (h:p:=by
  intro w40 hh;rw [dI];refine nC (aN (cF (dP (eF (bX ?_)))));refine rZ hh mixed fun w_ hj_=> ?_;replace hh:=hj_.hp;clear hj_;refine wq (i:=0) (i2:=1) ZD rfl rfl ?_ ?_
  ·refine nB hh 1 [_,_] ?_;refine dY ?_;refine wq (i:=1) (i2:=2) ZD rfl rfl ?_ ?_
   ·refine nB hh 0 [_,_] ?_;exact Rs
   ·refine gE hh 3 [_,_] ?_;intro ws hh;replace hh:Hp _ (_::_::_::.blk _ _ [_,_] _::_) _:=hh;refine dY ?_;refine eU (i:=1) ZD rfl ?_;refine nB hh 0 [_,_] ?_;exact Si
  ·refine nB hh 0 [_,_] ?_;refine dY ?_;refine eU (i:=0) ZD rfl ?_;refine nB hh 1 [_,_] ?_;exact Rs):p:=h
theorem vI {p:Prop} (h:p:=by
  refine bJ ?_;intro ws hh;refine B7 ?_;exact ⟨rfl,hh.below⟩):p:=h
theorem dh {p:Prop} (h:p:=by
  exact ZE):p:=h
theorem Yz {p:Prop} (h:p:=by
  refine cX [19,20] [17,18] [0,1,0,4,0,28,63,0,128,0,512,0,3584,8191,16383,32767,65535,65535,65535,0,0,1703935,3932159,8388607] 21 [[(3,none)],[(40,some 0)],[(3,none)],[(42,some 2)],[(7,none)],[(43,some 3),(44,some 4)],[(41,some 1),(45,some 5)],[(4,none)],[(47,some 7)],[(4,none)],[(49,some 9)],[(7,none)],[(50,some 10),(51,some 11)],[(48,some 8),(52,some 12)],[(46,some 6),(53,some 13)],[(54,some 14)],[(39,some 15)],[(39,some 15)],[(39,some 15)],[],[]] [(20,9),(19,8),(18,57),(17,56),(16,55),(15,39),(14,54),(13,53),(12,52),(11,51),(10,50),(9,49),(8,48),(7,47),(6,46),(5,45),(4,44),(3,43),(2,42),(1,41),(0,40)] hh mixed ZD (fB rfl aC.out (fB rfl aC.out dk)) rfl (by repeat (first|exact bW|refine bA ?_|refine bY ?_)) ?_;refine cK ?_;refine df 2 [_,_] ?_;refine cK ?_;refine ee 2 ?_;refine cj ?_;refine s7 ?_;refine dC (fun _ hj=>hs1 _) ?_;refine cK ?_;refine df 1 [_,_] ?_;refine cK ?_;refine ee 1 ?_;refine cj ?_;refine s7 ?_;refine dC (fun _ hj=>hs2 _) ?_;refine dC (fun _ hj=>hdv _) ?_;refine Xx ?_;refine O5 ?_;refine O5 ?_;refine O5 ?_
  refine aM (i:=19) (bC _ 31 _) bC.ext (fun ρ1 w1 hj hR=>eR aC.out hj.bl (fun v w2 h hb=>⟨hb,h⟩)) ?_;refine aM (i:=20) (bC _ 31 _) bC.ext (fun ρ1 w1 hj hR=>eR aC.out hj.bl (fun v w2 h hb=>⟨hb,h⟩)) ?_;refine au ?_;intro f W hJ hV hD;have hb_9:=hJ.bl;obtain ⟨v9,v8,v57,v56,v55,v39,v54,v53,v52,v51,v50,v49,v48,v47,v46,v45,v44,v43,v42,v41,v40,_⟩:=hV;obtain ⟨b8,e8,hl8,hc8⟩:bC _ _ _ (f 19) W:=v8;obtain ⟨b9,e9,hl9,hc9⟩:bC _ _ _ (f 20) W:=v9;have hne:=M0 hD (i:=19) (j:=20) ZC ZC ZC e8 e9;replace hh:=hJ.rK hh hl8 hc8 hl9 hc9 hne;clear hD hne;refine az (aH (aa e9 (aa e8 (aa v57 (aa v56 (aa v55 (aa v39 (aa v54 (aa v53 (aa v52 (aa v51 (aa v50 (aa v49 (aa v48 (aa v47 (aa v46 (aa v45 (aa v44 (aa v43 (aa v42 (aa v41 (aa v40 ay)))))))))))))))))))))) ?_;dsimp only [bf];clear e8 e9 hJ;refine bU ?_;intro ws hh ws hh;refine aw 10 [[(8,none)],[(2,none)],[(59,some 1)],[(58,some 0),(60,some 2)],[(8,none)],[(2,none)],[(63,some 5)],[(62,some 4),(64,some 6)],[(61,some 3),(65,some 7)],[]] [(9,11),(8,66),(7,65),(6,64),(5,63),(4,62),(3,61),(2,60),(1,59),(0,58)] hh mixed ZD ?_;refine df 1 [_,_] ?_;refine cj ?_
  refine aV (i:=2) (fun ρ1 w1 hj hR=>wC (show ρ1 59=Value.int _ _ from hR.1) ZB ZB) ?_;refine dC (fun _ hj=>hmk _) ?_;refine df 1 [_,_] ?_;refine cj ?_;refine aV (i:=6) (fun ρ1 w1 hj hR=>wC (show ρ1 63=Value.int _ _ from hR.1) ZB ZB) ?_;refine dC (fun _ hj=>hmk _) ?_;refine dB [_,_,_,_,_,_] ?_;refine aM (i:=9) (bC _ 35 _) bC.ext (fun ρ1 w1 hj hR=>eR aC.out hj.bl (fun v w2 h hb=>⟨hb,h⟩)) ?_;refine au ?_;intro f W hJ hV;have hb_10:=hJ.bl;obtain ⟨v11,v66,v65,v64,v63,v62,v61,v60,v59,v58,_⟩:=hV;obtain ⟨b11,e11,hl11,hc11⟩:bC _ _ _ (f 9) W:=v11;replace hh:=hJ.newVar hh hl11 hc11;refine az (aH (aa e11 (aa v66 (aa v65 (aa v64 (aa v63 (aa v62 (aa v61 (aa v60 (aa v59 (aa v58 ay))))))))))) ?_;dsimp only [bf];clear e11 hJ;refine bJ ?_;intro ws hh;refine a0 hh (hsr _) rfl ?_;intro w68 hh;by_cases hz:rr=0
  ·rw [hz];refine bJ ?_;intro ws hh;refine Hj (bH rfl (bG (vs:=[_,_,_,_,_,_]) aC.out (hh.aK (i:=3) (n:=6) rfl rfl) rfl) cV) ?_;exact ⟨by rw [ZH rfl,Int.add_zero];rfl,hh.below⟩
  ·have hs9:¬rr.sign=0:=fun h=>hz (ac2.1 h);generalize rr.sign=sg2 at*;refine aj ?_;refine aw 5 [[(8,none)],[],[(70,some 0),(71,some 1)],[(2,none)],[(73,some 3)]] [(4,74),(3,73),(2,72),(1,71),(0,70)] hh mixed ZD ?_;refine df 2 [_,_] ?_;refine dC (fun _ hj=>hof _) ?_;refine dC (fun _ hj=>hpl _) ?_;refine cj ?_;refine aV (i:=4) (fun ρ1 w1 hj hR=>wC (show ρ1 73=Value.int _ _ from hR.1) ZB ZB) ?_;refine au ?_;intro f W hJ hV;have hb_12:=hJ.bl;obtain ⟨v74,v73,v72,v71,v70,_⟩:=hV;replace hh:=hJ.hp;refine az (aH (aa v74 (aa v73 (aa v72 (aa v71 (aa v70 ay)))))) ?_;dsimp only [bf];clear hJ;refine a0 hh (hmk2 _) rfl ?_;intro w75 hh;refine bU ?_;intro ws hh ws hh;refine Hj (bH rfl (bG (vs:=[_,_,_,_,_,_]) aC.out (hh.aK (i:=3) (n:=6) rfl rfl) rfl) cV) ?_;exact ⟨by rw [ZG hz];rfl,hh.below⟩):p:=h
section
variable {H:Type}{enc:TypeId×Value→H}{P:Program}
theorem pV (hl:laidOutB P=true) {W W':World} (hb:Below W.heap.size W W') (sp:Nat→Bool):∀(ts:List TypeId) (vs:List Value) (ds:List (DataW H)) (ps:List MemPlace),(∀t∈ts,P.readableRec t=true∧t<P.types.size)→
  (∀x∈ps,x.block<W.heap.size)→(∀x∈ps,sp x.block=true)→DataW.TrodAll enc P W 0 (fun _=>true) true ts vs ds ps→DataW.TrodAll enc P W' 0 sp true ts vs ds ps
 |[],vs,ds,ps,_,_,_,h=>by
  obtain ⟨rfl,rfl,rfl⟩:=trodAll_nil h;exact trodAll_mk0
 |t::ts,vs,ds,ps,hr,hlt,hsp,h=>by
  obtain ⟨v,vs',d,ds',p,q,rfl,rfl,rfl,h0,r0⟩:=trodAll_cons h;refine trodAll_cons_mk (WideElems.Trod_stays hl (hr t ZQ).1 (hr t ZQ).2 h0 (fun x hx=>hb.same (hlt x (abk _ hx))) (fun x hx=>hsp x (abk _ hx)))
   (pV hl hb sp ts vs' ds' q (fun t ht=>hr t (Z0 _ ht)) (fun x hx=>hlt x (aaD _ hx)) (fun x hx=>hsp x (aaD _ hx)) r0)
theorem LF {f:Func}{s:ChangeSpec}{W W':World}{args:Array Value}{ds:List (DataW H)}{before:List MemPlace}{tb:TypeId}
  (hW:DataW.Whole enc P f.params.toList s.vars false W args.toList ds [] before) (hv:s.vars=[]) (hl:laidOutB P=true) (hr:∀t∈f.params.toList,P.readableRec t=true∧t<P.types.size)
  (hres:f.resultTypes= #[tb]) (hbool:P.underlying tb=some .bool) (hs1:(s.fn H (ds++[])).results=[.lit (.bool true)]) (hs2:(s.fn H (ds++[])).args=ds) (hs3:(s.fn H (ds++[])).vars=[]) (hb:Below W.heap.size W W'):
  s.post enc P f false true false false W args (.bool true) W':=by
 have hlt:∀p∈before,p.block<W.heap.size:=fun p hp=>by simpa using hW.lt p hp
 have hold:∀p∈before,(fun b=>decide (b<W.heap.size)) p.block=true:=fun p hp=>by simpa using hlt p hp
 have hW0:=hW;obtain ⟨pa,pv,hA,hV,hps,hz,hn⟩:=hW0;rw [hv] at hV;obtain ⟨_,rfl⟩:=trodVars_none hV;have hbp:before=pa:=by rw [hps,aal]
 subst hbp;have hA':∀sp:Nat→Bool,(∀p∈before,sp p.block=true)→DataW.TrodAll enc P W' 0 sp true f.params.toList args.toList (s.fn H (ds++[])).args before:=fun sp hsp=>by
  rw [hs2];exact pV hl hb sp _ _ _ _ hr hlt hsp hA
 have hV':∀sp:Nat→Bool,DataW.TrodVars enc P W' sp s.vars (s.fn H (ds++[])).vars []:=fun sp=>by
  rw [hv,hs3];rfl
 have hR:∀(b:Nat) (sp:Nat→Bool) (hd:Bool),DataW.TrodAll enc P W' b sp hd f.resultTypes.toList ((Value.bool true).resultList f.resultTypes.size) (s.fn H (ds++[])).results []:=fun b sp hd=>by
  rw [hres,hs1];exact trodAll_cons_mk (shut_bool hbool _) trodAll_mk0
 refine ⟨ds,[],before,[],before,[],hW,hR _ _ _,hA' _ hold,hV' _,World.keptBut_mono (fun p hp=>⟨hp, ?_⟩) (hb.frame (· ∈before)),fun _=> ?_⟩
 ·exact .inr (.inl hp)
 ·refine ⟨ok_one hres rfl (okWide_bool_mk hbool _),_,_,([]++before)++[],⟨[]++before,[],trodAll_append (hA' _ (fun _ _=>rfl)) (hR _ _ _),hV' _,rfl, ?_, ?_⟩, ?_⟩
  ·intro b off hp;have hp2:=hz b off (by simpa using hp);rw [hb.frozen (hlt _ (by simpa using hp))];exact hp2
  ·intro ha
   cases ha
  ·intro p hp _;simpa using hp
end
end Go.Proofs.YtmchncaiffbpaaaGreatDoor
