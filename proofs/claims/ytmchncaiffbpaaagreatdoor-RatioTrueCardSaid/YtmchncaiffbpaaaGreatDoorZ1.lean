/- Lemmas for ratioTrue, part 1. -/
import Derived.KernelRfl
import Derived.Test.YtmchncaiffbpaaaGreatDoorRows
import Derived.WalkKit
import Derived.ProofKit
import Derived.OpenShut
import Derived.Carry
import Derived.WalkLawsBesides
import Derived.Below
import Derived.Laws.OwnMore
import Derived.Laws.Rows
import Derived.RegionTactic
import Derived.ControlIn
import Derived.TacticsIn
import Derived.AtR
import Derived.Deep.AppendLies
import Derived.Maps.AppendAt
import Derived.OwnWalk
set_option maxHeartbeats 0
namespace Go.Proofs.YtmchncaiffbpaaaGreatDoor
open Go.ChangeShapes Go.WideShapes Go.ChangeAt Go.RowKit
theorem abw:type_of% @if_neg:=@if_neg
theorem abx:type_of% @if_pos:=@if_pos
theorem aby:type_of% @List.Sublist.cons_cons:=@List.Sublist.cons_cons
theorem abz:type_of% @List.mem_of_getElem?:=@List.mem_of_getElem?
theorem abA:type_of% @List.Sublist.cons:=@List.Sublist.cons
theorem abB:type_of% @Nat.zero_le:=@Nat.zero_le
theorem abC:type_of% @List.nil_append:=@List.nil_append
theorem abD:type_of% @Nat.le_refl:=@Nat.le_refl
theorem abE:type_of% @List.cons_append:=@List.cons_append
theorem abF:type_of% @List.mem_cons_self:=@List.mem_cons_self
theorem abG:type_of% @List.take_of_length_le:=@List.take_of_length_le
theorem abH:type_of% @List.length_map:=@List.length_map
theorem abI:type_of% @List.getElem?_map:=@List.getElem?_map
theorem abJ:type_of% @List.length_append:=@List.length_append
theorem abK:type_of% @List.set_cons_zero:=@List.set_cons_zero
theorem abL:type_of% @List.mem_map:=@List.mem_map
theorem abM:type_of% @List.getElem?_eq_some_iff:=@List.getElem?_eq_some_iff
theorem abN:type_of% @List.mem_cons_of_mem:=@List.mem_cons_of_mem
theorem abO:type_of% @List.mem_cons:=@List.mem_cons
theorem abP:type_of% @List.length_take:=@List.length_take
theorem abQ:type_of% @decide_eq_true:=@decide_eq_true
theorem abR:type_of% @decide_eq_false:=@decide_eq_false
theorem abS:type_of% @Bool.and_eq_true:=@Bool.and_eq_true
theorem abT:type_of% @List.getElem?_eq_none:=@List.getElem?_eq_none
theorem abU:type_of% @Nat.mul_comm:=@Nat.mul_comm
theorem abV:type_of% @List.Sublist.slnil:=@List.Sublist.slnil
theorem abW:type_of% @Nat.le_trans:=@Nat.le_trans
theorem abX:type_of% @List.mem_singleton:=@List.mem_singleton
theorem abY:type_of% @List.length_reverse:=@List.length_reverse
theorem abZ:type_of% @Nat.mul_one:=@Nat.mul_one
theorem ab0:type_of% @List.length_cons:=@List.length_cons
theorem ab1:type_of% @decide_eq_true_eq:=@decide_eq_true_eq
theorem ab2:type_of% @Nat.zero_add:=@Nat.zero_add
theorem ab3:type_of% @List.mem_range:=@List.mem_range
theorem ab4:type_of% @Nat.mod_lt:=@Nat.mod_lt
theorem ab5:type_of% @Nat.pow_add:=@Nat.pow_add
theorem ab6:type_of% @List.all_eq_true:=@List.all_eq_true
theorem ab7:type_of% @Nat.pow_pos:=@Nat.pow_pos
theorem ab8:type_of% @List.map_cons:=@List.map_cons
theorem ab9:type_of% @List.set_cons_succ:=@List.set_cons_succ
theorem aca:type_of% @Option.some.inj:=@Option.some.inj
theorem acb:type_of% @List.append_assoc:=@List.append_assoc
theorem acd:type_of% @Nat.mul_le_mul_left:=@Nat.mul_le_mul_left
theorem ace:type_of% @Bool.false_or:=@Bool.false_or
theorem acf:type_of% @List.perm_middle:=@List.perm_middle
theorem acg:type_of% @List.append_nil:=@List.append_nil
theorem ach:type_of% @Nat.pow_le_pow_right:=@Nat.pow_le_pow_right
theorem aci:type_of% @Nat.mod_eq_of_lt:=@Nat.mod_eq_of_lt
theorem acj:type_of% @Nat.lt_or_ge:=@Nat.lt_or_ge
theorem ack:type_of% @List.map_map:=@List.map_map
theorem acm:type_of% @congrArg:=@congrArg
theorem acn:type_of% @List.sublist_cons_self:=@List.sublist_cons_self
theorem aco:type_of% @List.Sublist.refl:=@List.Sublist.refl
theorem acp:type_of% @List.ext_getElem?:=@List.ext_getElem?
theorem acq:type_of% @List.mem_append:=@List.mem_append
theorem acr:type_of% @Nat.pow_succ:=@Nat.pow_succ
theorem acs:type_of% @Nat.sub_self:=@Nat.sub_self
theorem acu:type_of% @Nat.lt_of_lt_of_le:=@Nat.lt_of_lt_of_le
theorem acv:type_of% @Nat.pow_mul:=@Nat.pow_mul
theorem acw:type_of% @Nat.mul_add:=@Nat.mul_add
theorem acx:type_of% @Nat.mul_le_mul_right:=@Nat.mul_le_mul_right
theorem acy:type_of% @List.getElem?_range:=@List.getElem?_range
theorem acz:type_of% @Nat.div_eq_of_lt:=@Nat.div_eq_of_lt
theorem acA:type_of% @List.nil_sublist:=@List.nil_sublist
theorem acB:type_of% @Nat.lt_of_le_of_lt:=@Nat.lt_of_le_of_lt
theorem acC:type_of% @Array.getD_eq_getD_getElem?:=@Array.getD_eq_getD_getElem?
theorem acD:type_of% @Nat.succ_mul:=@Nat.succ_mul
theorem acE:type_of% @Nat.mul_assoc:=@Nat.mul_assoc
theorem acF:type_of% @List.map_nil:=@List.map_nil
theorem acG:type_of% @List.mem_iff_getElem?:=@List.mem_iff_getElem?
theorem acH:type_of% @List.take_append_drop:=@List.take_append_drop
theorem acI:type_of% @List.mem_append_right:=@List.mem_append_right
theorem acJ:type_of% @List.length_drop:=@List.length_drop
theorem acK:type_of% @Int.natCast_mul:=@Int.natCast_mul
theorem acL:type_of% @List.length_replicate:=@List.length_replicate
theorem acM:type_of% @List.map_append:=@List.map_append
theorem acN:type_of% @Nat.div_lt_iff_lt_mul:=@Nat.div_lt_iff_lt_mul
theorem acO:type_of% @Nat.div_add_mod:=@Nat.div_add_mod
theorem acP:type_of% @List.getElem?_append_right:=@List.getElem?_append_right
theorem acQ:type_of% @Nat.min_eq_left:=@Nat.min_eq_left
theorem acR:type_of% @Nat.mul_le_mul:=@Nat.mul_le_mul
theorem acS:type_of% @List.not_mem_nil:=@List.not_mem_nil
theorem acT:type_of% @List.map_congr_left:=@List.map_congr_left
theorem acU:type_of% @List.length_set:=@List.length_set
theorem acV:type_of% @List.getElem?_set:=@List.getElem?_set
theorem acW:type_of% @Option.getD_some:=@Option.getD_some
theorem acX:type_of% @List.mem_filter:=@List.mem_filter
theorem acY:type_of% @Nat.add_zero:=@Nat.add_zero
theorem acZ:type_of% @Int.natCast_add:=@Int.natCast_add
theorem ac0:type_of% @List.mem_filterMap:=@List.mem_filterMap
theorem ac1:type_of% @List.getElem?_eq_getElem:=@List.getElem?_eq_getElem
theorem ac2:type_of% @Nat.add_mul_div_left:=@Nat.add_mul_div_left
theorem ac3:type_of% @beq_iff_eq:=@beq_iff_eq
theorem ac4:type_of% @Nat.div_div_eq_div_mul:=@Nat.div_div_eq_div_mul
theorem ac5:type_of% @Nat.mul_succ:=@Nat.mul_succ
theorem ac6:type_of% @List.getElem?_reverse:=@List.getElem?_reverse
theorem ac7:type_of% @Classical.not_not:=@Classical.not_not
theorem ac8:type_of% @List.pairwise_cons:=@List.pairwise_cons
theorem ac9:type_of% @List.any_eq_false:=@List.any_eq_false
theorem ada:type_of% @Int.toNat_natCast:=@Int.toNat_natCast
theorem adb:type_of% @Int.sign_eq_neg_one_of_neg:=@Int.sign_eq_neg_one_of_neg
theorem ade:type_of% @List.mem_flatMap:=@List.mem_flatMap
theorem adf:type_of% @List.mem_append_left:=@List.mem_append_left
theorem adg:type_of% @List.any_eq_true:=@List.any_eq_true
theorem adh:type_of% @List.take_zero:=@List.take_zero
theorem adi:type_of% @Int.sign_eq_one_of_pos:=@Int.sign_eq_one_of_pos
theorem adj:type_of% @List.getElem?_mapIdx:=@List.getElem?_mapIdx
theorem adk:type_of% @List.range_succ:=@List.range_succ
theorem adl:type_of% @Bool.and_eq_true_iff:=@Bool.and_eq_true_iff
theorem adm:type_of% @List.getD_eq_getElem?_getD:=@List.getD_eq_getElem?_getD
theorem adn:type_of% @List.length_range:=@List.length_range
theorem ado:type_of% @List.getElem?_take:=@List.getElem?_take
theorem adp:type_of% @List.mem_reverse:=@List.mem_reverse
theorem adq:type_of% @Dyadic.one_mul:=@Dyadic.one_mul
theorem adr:type_of% @Option.map_some:=@Option.map_some
theorem ads:type_of% @of_decide_eq_true:=@of_decide_eq_true
theorem adt:type_of% @List.getElem?_drop:=@List.getElem?_drop
theorem adu:type_of% @Int.natAbs_mul:=@Int.natAbs_mul
theorem adv:type_of% @Option.some.injEq:=@Option.some.injEq
theorem adw:type_of% @Nat.eq_zero_or_pos:=@Nat.eq_zero_or_pos
theorem adx:type_of% @List.mem_of_mem_take:=@List.mem_of_mem_take
theorem ady:type_of% @List.drop_eq_getElem_cons:=@List.drop_eq_getElem_cons
theorem adz:type_of% @List.map_set:=@List.map_set
theorem adA:type_of% @Option.map_eq_some_iff:=@Option.map_eq_some_iff
theorem adB:type_of% @List.eq_nil_of_length_eq_zero:=@List.eq_nil_of_length_eq_zero
theorem adD:type_of% @Nat.add_comm:=@Nat.add_comm
theorem adE:type_of% @List.getElem?_append_left:=@List.getElem?_append_left
theorem adF:type_of% @Nat.add_mul_mod_self_left:=@Nat.add_mul_mod_self_left
theorem adG:type_of% @List.getElem?_toArray:=@List.getElem?_toArray
theorem adH:type_of% @List.drop_of_length_le:=@List.drop_of_length_le
theorem adI:type_of% @List.nodup_cons:=@List.nodup_cons
theorem adJ:type_of% @Nat.add_mul:=@Nat.add_mul
theorem adK:type_of% @Dyadic.pow_zero:=@Dyadic.pow_zero
theorem adL:type_of% @List.filterMap_cons:=@List.filterMap_cons
theorem adM:type_of% @Nat.div_le_self:=@Nat.div_le_self
theorem adN:type_of% @Classical.byContradiction:=@Classical.byContradiction
theorem adO:type_of% @List.getElem?_zipWith:=@List.getElem?_zipWith
theorem adP:type_of% @Option.bind_some:=@Option.bind_some
theorem adQ:type_of% @List.reverse_cons:=@List.reverse_cons
theorem adR:type_of% @List.map_id:=@List.map_id
theorem adS:type_of% @List.set_append_right:=@List.set_append_right
theorem adT:type_of% @Nat.mul_zero:=@Nat.mul_zero
theorem adU:type_of% @Nat.div_one:=@Nat.div_one
theorem adV:type_of% @List.flatMap_cons:=@List.flatMap_cons
theorem adW:type_of% @Array.getElem?_eq_getElem:=@Array.getElem?_eq_getElem
theorem adX:type_of% @Dyadic.zero_add:=@Dyadic.zero_add
theorem adZ:type_of% @Nat.one_mul:=@Nat.one_mul
theorem ad0:type_of% @List.reverse_reverse:=@List.reverse_reverse
theorem ad1:type_of% @Nat.mul_lt_mul_of_pos_right:=@Nat.mul_lt_mul_of_pos_right
theorem ad3:type_of% @Int.natAbs_pow:=@Int.natAbs_pow
theorem ad4:type_of% @Nat.zero_mul:=@Nat.zero_mul
theorem ad5:type_of% @List.replicate_succ:=@List.replicate_succ
theorem ad6:type_of% @Dyadic.add_zero:=@Dyadic.add_zero
theorem ad7:type_of% @List.drop_drop:=@List.drop_drop
theorem ad8:type_of% @List.foldl_cons:=@List.foldl_cons
theorem ad9:type_of% @List.flatMap_append:=@List.flatMap_append
theorem aea:type_of% @Bool.or_eq_true:=@Bool.or_eq_true
theorem aeb:type_of% @List.drop_zero:=@List.drop_zero
theorem aec:type_of% @Nat.mul_left_comm:=@Nat.mul_left_comm
theorem aed:type_of% @List.filter_append:=@List.filter_append
theorem aee:type_of% @List.take_succ_cons:=@List.take_succ_cons
theorem aef:type_of% @List.any_cons:=@List.any_cons
theorem aeg:type_of% @List.any_append:=@List.any_append
theorem aeh:type_of% @Dyadic.pow_succ:=@Dyadic.pow_succ
theorem aei:type_of% @List.size_toArray:=@List.size_toArray
theorem aej:type_of% @Nat.pow_zero:=@Nat.pow_zero
theorem aek:type_of% @List.map_singleton:=@List.map_singleton
theorem ael:type_of% @Int.le_refl:=@Int.le_refl
theorem aem:type_of% @List.getElem?_cons_zero:=@List.getElem?_cons_zero
theorem aen:type_of% @List.getElem?_cons_succ:=@List.getElem?_cons_succ
theorem aeo:type_of% @Bool.not_true:=@Bool.not_true
theorem aep:type_of% @Bool.not_eq_true':=@Bool.not_eq_true'
theorem aeq:type_of% @List.map_drop:=@List.map_drop
theorem aer:type_of% @List.length_nil:=@List.length_nil
theorem aes:type_of% @Nat.mod_add_div:=@Nat.mod_add_div
theorem aet:type_of% @Nat.add_assoc:=@Nat.add_assoc
theorem aeu:type_of% @List.length_eq_zero_iff:=@List.length_eq_zero_iff
theorem aev:type_of% @Bool.true_and:=@Bool.true_and
theorem aew:type_of% @Int.mul_neg:=@Int.mul_neg
theorem aex:type_of% @List.any_nil:=@List.any_nil
theorem aey:type_of% @Bool.false_eq_true:=@Bool.false_eq_true
theorem aez:type_of% @List.take_length:=@List.take_length
theorem aeA:type_of% @Int.natAbs_ediv_le_natAbs:=@Int.natAbs_ediv_le_natAbs
theorem aeB:type_of% @Bool.false_and:=@Bool.false_and
theorem aeC:type_of% @Nat.le_mul_of_pos_left:=@Nat.le_mul_of_pos_left
theorem aeD:type_of% @Int.natCast_pow:=@Int.natCast_pow
theorem aeE:type_of% @UInt8.toNat_inj:=@UInt8.toNat_inj
theorem aeF:type_of% @List.reverse_append:=@List.reverse_append
theorem aeG:type_of% @Int.lt_trichotomy:=@Int.lt_trichotomy
theorem aeH:type_of% @List.map_id':=@List.map_id'
theorem aeI:type_of% @List.perm_append_comm:=@List.perm_append_comm
theorem aeJ:type_of% @List.foldl_append:=@List.foldl_append
theorem aeK:type_of% @List.sum_cons:=@List.sum_cons
theorem aeL:type_of% @List.getElem?_zip_eq_some:=@List.getElem?_zip_eq_some
theorem aeM:type_of% @List.cons.injEq:=@List.cons.injEq
theorem aeN:type_of% @List.mem_or_eq_of_mem_set:=@List.mem_or_eq_of_mem_set
theorem aeO:type_of% @Array.all_eq_true':=@Array.all_eq_true'
theorem aeP:type_of% @Bool.eq_false_iff:=@Bool.eq_false_iff
theorem aeQ:type_of% @Nat.lt_of_not_le:=@Nat.lt_of_not_le
theorem aeR:type_of% @Array.getElem?_eq_none:=@Array.getElem?_eq_none
theorem aeS:type_of% @Nat.le_of_not_lt:=@Nat.le_of_not_lt
theorem aeT:type_of% @decide_eq_false_iff_not:=@decide_eq_false_iff_not
theorem aeU:type_of% @List.length_zipWith:=@List.length_zipWith
theorem aeV:type_of% @List.length_finRange:=@List.length_finRange
theorem aeW:type_of% @Dyadic.mul_zero:=@Dyadic.mul_zero
theorem aeX:type_of% @Int.eq_ofNat_of_zero_le:=@Int.eq_ofNat_of_zero_le
theorem aeY:type_of% @List.set_eq_take_append_cons_drop:=@List.set_eq_take_append_cons_drop
theorem aeZ:type_of% @List.all_append:=@List.all_append
theorem ae0:type_of% @Nat.mul_lt_mul'':=@Nat.mul_lt_mul''
theorem ae1:type_of% @List.Pairwise.nil:=@List.Pairwise.nil
theorem ae2:type_of% @List.replicate_zero:=@List.replicate_zero
theorem ae3:type_of% @UInt8.toNat_ofNat':=@UInt8.toNat_ofNat'
theorem ae4:type_of% @List.drop_eq_nil_of_le:=@List.drop_eq_nil_of_le
theorem ae5:type_of% @List.contains_iff_mem:=@List.contains_iff_mem
theorem ae6:type_of% @List.countP_singleton:=@List.countP_singleton
theorem ae7:type_of% @List.filterMap_append:=@List.filterMap_append
theorem ae8:type_of% @List.countP_replicate:=@List.countP_replicate
theorem ae9:type_of% @Array.toList_setIfInBounds:=@Array.toList_setIfInBounds
theorem afa:type_of% @List.pairwise_singleton:=@List.pairwise_singleton
theorem afb:type_of% @List.mem_of_mem_drop:=@List.mem_of_mem_drop
theorem afc:type_of% @List.getElem?_replicate:=@List.getElem?_replicate
theorem afd:type_of% @Nat.pow_lt_pow_iff_right:=@Nat.pow_lt_pow_iff_right
theorem afe:type_of% @List.getElem?_eq_none_iff:=@List.getElem?_eq_none_iff
theorem aff:type_of% @Nat.le_mul_of_pos_right:=@Nat.le_mul_of_pos_right
theorem afg:type_of% @Array.getElem?_eq_some_iff:=@Array.getElem?_eq_some_iff
theorem afh:type_of% @Int.fdiv_eq_ediv_of_nonneg:=@Int.fdiv_eq_ediv_of_nonneg
def zL0:List (List (Nat×Option Nat)):=[[(4,none)],[(21,some 0)],[(1,none)],[(23,some 2)],[(22,some 1),(24,some 3)],[(25,some 4)],[(26,some 5)],[(4,none),(27,some 6)],[(28,some 7),(27,some 6)],[(29,some 8),(27,some 6)],[(30,some 9),(27,some 6)],[(27,some 6),(31,some 10)],[(32,some 11)],[(4,none),(33,some 12)],[(34,some 13),(33,some 12)],[(35,some 14),(33,some 12)],[(4,none),(33,some 12)],[(37,some 16),(33,some 12)],[(36,some 15),(38,some 17),(33,some 12)],[(33,some 12),(39,some 18)],[(40,some 19)],[(3,none),(41,some 20)],[(42,some 21),(41,some 20)],[(43,some 22),(41,some 20)],[(1,none),(44,some 23)],[(45,some 24),(44,some 23)],[(3,none),(44,some 23)],[(47,some 26),(44,some 23)],[(46,some 25),(48,some 27),(44,some 23)],[(49,some 28),(44,some 23)],[(50,some 29),(44,some 23)],[(4,none),(44,some 23)],[(52,some 31),(44,some 23)]]
def zL1:List Nat:=[0,1,0,4,15,31,63,127,255,511,1023,2047,4095,8191,16383,32767,8191,73727,262143,524287,1048575,2097151,4194303,8388607,16777215,33554431,16777215,83886079,268435455,536870911,1073741823,16777215,2164260863,8589934591,17179869183,34359738367]
def zL2:List Nat:=[15,16,67,68,69,70,71,72,73,74,75,76,77,78,79,80,81,82,83,84,85]
def zL3:List Nat:=[16,18,102,103,104,105,106,107,108,109,110,111,112,113,114,115,116,117,118,119,120]
def zL4:List Nat:=[14,53,54,55,56,57,58,59,60,61,62,63,64,65,66,67,68,69]
def zL5:List Nat:=[23,24,25,26,27,28,29,30,31,32,33,34,35,36,37,38,39,40,41,42,43,44,45,46,47,48,49,50,51,52,53]
theorem abq {p:Prop} (h:p:=by omega):p:=h
theorem abr {p:Prop} (h:p:=by decide):p:=h
theorem abt {p:Prop} (h:p:=by kernel_rfl):p:=h
theorem Et {P Q:Prop} (p:P) (h:P→Q:=by intro kQ;exact Gk (b:=4294967295) rfl rfl (by first|assumption|omega) (by first|assumption|omega) abr kQ):Q:=h p
theorem uD {P Q:Prop} (p:P) (h:P→Q:=by intro kQ;exact mY (s:=32) (m:=4294967296) rfl rfl abr abr abr kQ):Q:=h p
theorem IY {P Q:Prop} (p:P) (h:P→Q:=by intro kQ;exact mY (s:=8) (m:=256) rfl rfl abr abr abr kQ):Q:=h p
theorem mv {P Q:Prop} (p:P) (h:P→Q:=by intro kQ;exact Hf bq.out bq.out rfl (by first|assumption|omega) abr kQ):Q:=h p
theorem HZ {P Q:Prop} (p:P) (h:P→Q:=by intro kQ;exact sZ (aJ (cF (dA (eF (sr (mI (mI kQ)))))))):Q:=h p
theorem Jg {P Q:Prop} (p:P) (h:P→Q:=by intro kQ;exact du (k:=j) bq.out az.size rfl rfl abq abq abr kQ):Q:=h p
theorem o9 {P Q:Prop} (p:P) (h:P→Q:=by intro kQ;exact bG az.out rfl ((hr.ext hh.below).vc (by assumption)) abr kQ):Q:=h p
theorem Ec {P Q:Prop} (p:P) (h:P→Q:=by intro kQ;exact Yt rfl rfl (by first|assumption|omega) (by first|assumption|omega) abr kQ):Q:=h p
theorem LQ {P Q:Prop} (p:P) (h:P→Q:=by intro kQ;exact bM hh (i:=0) (vs:=[_]) rfl rfl (cH rfl) rfl az.out rfl (by rw [aV,aN];omega) rfl kQ):Q:=h p
theorem MW {P Q:Prop} (p:P) (h:P→Q:=by intro kQ;exact aC 8 [[(0,none)],[(5,none)],[(28,some 0),(29,some 1)],[(30,some 2)],[(1,none)],[(5,none)],[(32,some 4),(33,some 5)],[(34,some 6)]] [(7,35),(6,34),(5,33),(4,32),(3,31),(2,30),(1,29),(0,28)] hh mixed abt kQ):Q:=h p
theorem CP {P Q:Prop} (p:P) (h:P→Q:=by intro kQ;exact yY (fun _ hj=>(hr.ext hj.hp.below).vc hx3) kQ):Q:=h p
theorem EU {P Q:Prop} (p:P) (h:P→Q:=by intro kQ;exact yY (fun _ hj=>(hs.ext hj.hp.below).vc hy3) kQ):Q:=h p
theorem N8 {P Q:Prop} (p:P) (h:P→Q:=by intro kQ;exact ay (aQ (aa v35 (aa v34 (aa v33 (aa v32 (aa v31 (aa v30 (aa v29 (aa v28 aw))))))))) kQ):Q:=h p
theorem UE {P Q:Prop} (p:P) (h:P→Q:=by intro kQ;exact aC 8 [[(0,none)],[(5,none)],[(38,some 0),(39,some 1)],[(40,some 2)],[(1,none)],[(5,none)],[(42,some 4),(43,some 5)],[(44,some 6)]] [(7,45),(6,44),(5,43),(4,42),(3,41),(2,40),(1,39),(0,38)] hh mixed abt kQ):Q:=h p
theorem Tm {P Q:Prop} (p:P) (h:P→Q:=by intro kQ;exact ay (aQ (aa v45 (aa v44 (aa v43 (aa v42 (aa v41 (aa v40 (aa v39 (aa v38 aw))))))))) kQ):Q:=h p
theorem E4 {P Q:Prop} (p:P) (h:P→Q:=by intro kQ;exact nP (aJ (bO (cT (dA (eF (bO (lk (sr (mI (aI (aJ (sr (aI (aJ (bO (sr (mI (mL (te kQ)))))))))))))))))))):Q:=h p
theorem OT {P Q:Prop} (p:P) (h:P→Q:=by intro kQ;exact du (k:=done.length) bq.out az.size rfl rfl abq abq abr kQ):Q:=h p
theorem lF {P Q:Prop} (p:P) (h:P→Q:=by intro kQ;exact bG az.out rfl (hh.ff (i:=0) rfl (by first|assumption|(simp only [abZ];assumption))) abr kQ):Q:=h p
theorem qf {P Q:Prop} (p:P) (h:P→Q:=by intro kQ;exact nj (k:=done.length) bq.out az.size rfl rfl abq abq abr kQ):Q:=h p
theorem zi {P Q:Prop} (p:P) (h:P→Q:=by intro kQ;exact bM hh (i:=0) (vs:=[_]) rfl rfl (cH rfl) rfl az.out rfl (by rw [aV];simp only [abJ,ab0];omega) rfl kQ):Q:=h p
theorem vA {P Q:Prop} (p:P) (h:P→Q:=by intro kQ;exact cQ hh (cs:=[_]) bq.out az.out (bC (cH rfl) dk) rfl rfl abr abr abr rfl abr kQ):Q:=h p
theorem tV {P Q:Prop} (p:P) (h:P→Q:=by intro kQ;exact au (jd a _ ha) ak.out rfl abr kQ):Q:=h p
theorem Jb {P Q:Prop} (p:P) (h:P→Q:=by intro kQ;exact au (jd b _ hb) ak.out rfl abr kQ):Q:=h p
theorem Eu {P Q:Prop} (p:P) (h:P→Q:=by intro kQ;exact aZ hh (qU _ _ _ _ _ _ (aK 18446744073709551616 (bN a)) (aK 18446744073709551616 (bN b)) _ (hh.ao (i:=1) rfl) (hh.ao (i:=0) rfl) (gM _) (gM _) (hh.fh (i:=1) rfl) (hh.fh (i:=0) rfl) abq abq) rfl kQ):Q:=h p
theorem rE {P Q:Prop} (p:P) (h:P→Q:=by intro kQ;exact Kt (bI rfl (bJ (vs:=[_,_]) az.out (hh.aE (i:=0) (n:=2) rfl rfl) rfl) cR) kQ):Q:=h p
theorem OS {P Q:Prop} (p:P) (h:P→Q:=by intro kQ;exact ae (N:=13) (l:=[.agg #[.bool s,.string m]]) Tryz.func89 rfl rfl (by simp) kQ):Q:=h p
theorem Ji {P Q:Prop} (p:P) (h:P→Q:=by intro kQ;exact Rn bq.out rfl rfl (by first|rfl|assumption|decide) abr kQ):Q:=h p
theorem S2 {P Q:Prop} (p:P) (h:P→Q:=by intro kQ;exact ay (aQ (aa v14 (aa v13 (aa v12 (aa v11 (aa v10 (aa v9 (aa v8 (aa v7 (aa v6 (aa v5 aw))))))))))) kQ):Q:=h p
theorem zG {P Q:Prop} (p:P) (h:P→Q:=by intro kQ;exact ay (aQ (aa v7 (aa v6 (aa v5 aw)))) kQ):Q:=h p
theorem zO {P Q:Prop} (p:P) (h:P→Q:=by intro kQ;exact cQ hh (cs:=[_,_,_,_]) bq.out az.out (bC (eR rfl) (bC (eR rfl) dk)) rfl rfl abr abr abr rfl abr kQ):Q:=h p
theorem JG {P Q:Prop} (p:P) (h:P→Q:=by intro kQ;exact aC 10 [[(2,none)],[(18,some 0)],[(1,none)],[(20,some 2)],[(19,some 1),(21,some 3)],[(2,none)],[(23,some 5)],[(22,some 4),(24,some 6)],[(25,some 7)],[]] [(9,5),(8,26),(7,25),(6,24),(5,23),(4,22),(3,21),(2,20),(1,19),(0,18)] hh mixed abt kQ):Q:=h p
theorem Ig {P Q:Prop} (p:P) (h:P→Q:=by intro kQ;exact a8 (i:=3) (fun ρ1 w1 hj hR=>Mt (show ρ1 20=Value.int _ _ from hR.1) abq abq) kQ):Q:=h p
theorem Jp {P Q:Prop} (p:P) (h:P→Q:=by intro kQ;exact aW (i:=9) (cd _ 31 _) cd.ext (fun ρ1 w1 hj hR=>iP az.out hj.bl (fun v w2 h hb=>⟨hb,h⟩)) kQ):Q:=h p
theorem I2 {P Q:Prop} (p:P) (h:P→Q:=by intro kQ;exact ay (aQ (aa e5 (aa v26 (aa v25 (aa v24 (aa v23 (aa v22 (aa v21 (aa v20 (aa v19 (aa v18 aw))))))))))) kQ):Q:=h p
theorem OB {P Q:Prop} (p:P) (h:P→Q:=by intro kQ;exact ae (N:=47) (l:=[.agg #[.bool true,.string a],.int .i64 (-(m:Int))]) Tryz.func124 rfl rfl (by simp) kQ):Q:=h p
theorem M8 {P Q:Prop} (p:P) (h:P→Q:=by intro kQ;exact ae (N:=41) (l:=[.agg #[.bool a.neg,.string a.aO,.int .i64 a.e],.agg #[.bool b.neg,.string b.aO,.int .i64 b.e]]) Tryz.func68 rfl rfl (by simp) kQ):Q:=h p
theorem L5 {P Q:Prop} (p:P) (h:P→Q:=by intro kQ;exact aC 3 [[(2,none)],[(7,some 0)],[(3,none)]] [(2,9),(1,8),(0,7)] hh mixed abt kQ):Q:=h p
theorem NB {P Q:Prop} (p:P) (h:P→Q:=by intro kQ;exact dC (fun _ hj=>dK a _ (hT.hp hj.hp) abq abq abq) kQ):Q:=h p
theorem Ur {P Q:Prop} (p:P) (h:P→Q:=by intro kQ;exact ae (N:=28) (l:=[.agg #[.bool a.neg,.string a.aO,.int .i64 a.e],.agg #[.bool b.neg,.string b.aO,.int .i64 b.e]]) Tryz.func26 rfl rfl (by simp) kQ):Q:=h p
theorem Ij {P Q:Prop} (p:P) (h:P→Q:=by intro kQ;exact bF (vs:=[_,_,_]) az.out rfl (((hr.ext hh.below).recAt NR.len hx)) rfl abr kQ):Q:=h p
theorem qd {P Q:Prop} (p:P) (h:P→Q:=by intro kQ;exact cQ hh (cs:=[_,_,_,_,_,_]) bq.out az.out (bC (eR rfl) (bC (eR rfl) dk)) rfl rfl abr abr abr rfl abr kQ):Q:=h p
theorem DM {P Q:Prop} (p:P) (h:P→Q:=by intro kQ;exact aZ hh (k5 1 _ (hT.hp hh) abq abq) rfl kQ):Q:=h p
theorem Pe {P Q:Prop} (p:P) (h:P→Q:=by intro kQ;exact Gk (b:=1) rfl rfl (by first|assumption|omega) (by first|assumption|omega) abr kQ):Q:=h p
theorem qm {P Q:Prop} (p:P) (h:P→Q:=by intro kQ;exact bQ hh (i:=1) rfl rfl rfl (hh.ao (i:=0) rfl) bq.out az.out rfl abr (by first|rfl|exact cS _|exact cn _|exact bg _|exact bj NR.one _) abq abq abr kQ):Q:=h p
theorem EZ {P Q:Prop} (p:P) (h:P→Q:=by intro kQ;exact aZ hh (jU A n c j xs _ (hx.ext hh.below) hdx abq abq) rfl kQ):Q:=h p
theorem CU {P Q:Prop} (p:P) (h:P→Q:=by intro kQ;exact aZ hh (jU B m c' j ys _ (hy.ext hh.below) hdy abq abq) rfl kQ):Q:=h p
theorem zk {P Q:Prop} (p:P) (h:P→Q:=by intro kQ;exact fy (n:=n) hh rfl rfl abq abq bq.out az.out rfl abq abq abr kQ):Q:=h p
theorem zQ {P Q:Prop} (p:P) (h:P→Q:=by intro kQ;exact tG rfl rfl abq abr kQ):Q:=h p
theorem NG {P Q:Prop} (p:P) (h:P→Q:=by intro kQ;exact bM hh (i:=0) (vs:=[_]) rfl rfl (cH rfl) rfl az.out rfl (by rw [hll];omega) rfl kQ):Q:=h p
theorem EI {P Q:Prop} (p:P) (h:P→Q:=by intro kQ;exact au (fS a _ ha) ak.out rfl abr kQ):Q:=h p
theorem Nu {P Q:Prop} (p:P) (h:P→Q:=by intro kQ;exact aZ hh (ij _ _ _ (aK 2 (bN m)) _ (hh.ao (i:=0) rfl) (lU _) (hh.fh (i:=0) rfl) abq) rfl kQ):Q:=h p
theorem Ii {P Q:Prop} (p:P) (h:P→Q:=by intro kQ;exact Kt (bI rfl (bJ (vs:=[_,_]) az.out (hh.aE (i:=1) (n:=2) rfl rfl) rfl) cR) kQ):Q:=h p
theorem Aa {P Q:Prop} (p:P) (h:P→Q:=by intro kQ;exact Kt (bI rfl (bJ (vs:=[_,_,_]) az.out (hh.aE (i:=0) (n:=3) rfl rfl) rfl) cR) kQ):Q:=h p
theorem H6 {P Q:Prop} (p:P) (h:P→Q:=by intro kQ;exact ae (N:=38) (l:=[.agg #[.bool a.neg,.string a.aO,.int .i64 a.e],.agg #[.bool b.neg,.string b.aO,.int .i64 b.e]]) Tryz.func149 rfl rfl (by simp) kQ):Q:=h p
theorem HU {P Q:Prop} (p:P) (h:P→Q:=by intro kQ;exact aC 3 [[(2,none)],[(5,some 0)],[(3,none)]] [(2,7),(1,6),(0,5)] hh mixed abt kQ):Q:=h p
theorem I1 {P Q:Prop} (p:P) (h:P→Q:=by intro kQ;exact dC (fun _ hj=>ow a _ abq abq abq) kQ):Q:=h p
theorem HX {P Q:Prop} (p:P) (h:P→Q:=by intro kQ;exact aZ hh (ow b _ abq abq abq) rfl kQ):Q:=h p
theorem O2 {P Q:Prop} (p:P) (h:P→Q:=by intro kQ;exact aC 7 [[(2,none)],[(0,none)],[(26,some 1)],[(27,some 2)],[(1,none)],[(29,some 4)],[(30,some 5)]] [(6,31),(5,30),(4,29),(3,28),(2,27),(1,26),(0,25)] hh mixed abt kQ):Q:=h p
theorem L6 {P Q:Prop} (p:P) (h:P→Q:=by intro kQ;exact ay (aQ (aa v31 (aa v30 (aa v29 (aa v28 (aa v27 (aa v26 (aa v25 aw)))))))) kQ):Q:=h p
theorem PE {P Q:Prop} (p:P) (h:P→Q:=by intro kQ;exact bF (vs:=[_,_,_,_]) az.out rfl ((hr.ext hh.below).recAt TR.len hxx) rfl abr kQ):Q:=h p
theorem Ev {P Q:Prop} (p:P) (h:P→Q:=by intro kQ;exact cQ hh (cs:=[_,_,_,_]) bq.out az.out (bC (eR rfl) dk) rfl rfl abr abr abr rfl abr kQ):Q:=h p
theorem Oj {P Q:Prop} (p:P) (h:P→Q:=by intro kQ;exact iQ 8 abr abt abr abt abt kQ):Q:=h p
theorem Pg {P Q:Prop} (p:P) (h:P→Q:=by intro kQ;exact bF (vs:=[_,_,_,_]) az.out rfl ((hr2.ext hh.below).recAt TR.len hyy) rfl abr kQ):Q:=h p
theorem EF {P Q:Prop} (p:P) (h:P→Q:=by intro kQ;exact xH hh bq.out az.out abr kQ):Q:=h p
theorem PH {P Q:Prop} (p:P) (h:P→Q:=by intro kQ;exact oG (h:=i) bq.out az.size rfl rfl abq abq abr kQ):Q:=h p
theorem zv {P Q:Prop} (p:P) (h:P→Q:=by intro kQ;exact GD (bI rfl (bJ (vs:=[_,_]) az.out (hh.aE (i:=0) (n:=2) rfl rfl) rfl) (dQ (eL rfl) cR)) kQ):Q:=h p
theorem Ic {P Q:Prop} (p:P) (h:P→Q:=by intro kQ;exact bM hh (i:=0) (vs:=[_,_,_]) rfl rfl (eR rfl) rfl az.out rfl abq rfl kQ):Q:=h p
theorem Jw {P Q:Prop} (p:P) (h:P→Q:=by intro kQ;exact GD (bI rfl (bJ (vs:=[_,_]) az.out (hh.aE (i:=1) (n:=2) rfl rfl) rfl) (dQ (eL rfl) cR)) kQ):Q:=h p
theorem Py {P Q:Prop} (p:P) (h:P→Q:=by intro kQ;exact ae (N:=45) (l:=[.string a,.string b,.func (.func g) #[] #[]]) Tryz.func262 rfl rfl (by simp) kQ):Q:=h p
theorem ON {P Q:Prop} (p:P) (h:P→Q:=by intro kQ;exact bM hh (i:=1) (vs:=[_]) rfl rfl (cH rfl) rfl az.out rfl abq rfl kQ):Q:=h p
theorem qj {P Q:Prop} (p:P) (h:P→Q:=by intro kQ;exact bF (vs:=[_,_,_,_]) az.out rfl ((hr.ext hh.below).recAt TR.len hx) rfl abr kQ):Q:=h p
theorem DZ {P Q:Prop} (p:P) (h:P→Q:=by intro kQ;exact di (i:=9) rfl (fun ρ1 w1 hj hR=>(show ρ1 27=Value.bool _ from hR.2.1)) (fun ρ1 w1 hj hR=>aR ak.out (aq (show ρ1 29=Value.agg (List.toArray _) from hR.1) aY)) (fun w1 hj=>hsg _) kQ):Q:=h p
theorem I3 {P Q:Prop} (p:P) (h:P→Q:=by intro kQ;exact di (i:=15) rfl (fun ρ1 w1 hj hR=>(show ρ1 33=Value.bool _ from hR.2.1)) (fun ρ1 w1 hj hR=>aR ak.out (aq (show ρ1 35=Value.agg (List.toArray _) from hR.1) aY)) (fun w1 hj=>hfo _ (hT.hp hj.hp)) kQ):Q:=h p
theorem MM {P Q:Prop} (p:P) (h:P→Q:=by intro kQ;exact Bf (i:=18) rfl (fun ρ1 w1 hj hR=>(show ρ1 33=Value.bool _ from hR.2.2.1)) (fun ρ1 w1 hj hR=>Jv (show ρ1 36=Value.agg (List.toArray _) from hR.1) (show ρ1 38=Value.agg (List.toArray _) from hR.2.1) (by first|assumption|rfl)) kQ):Q:=h p
theorem HH {P Q:Prop} (p:P) (h:P→Q:=by intro kQ;exact ay (aQ (aa v53 (aa v52 (aa v51 (aa v50 (aa v49 (aa v48 (aa v47 (aa v46 (aa v45 (aa v44 (aa v43 (aa v42 (aa v41 (aa v40 (aa v39 (aa v38 (aa v37 (aa v36 (aa v35 (aa v34 (aa v33 (aa v32 (aa v31 (aa v30 (aa v29 (aa v28 (aa v27 (aa v26 (aa v25 (aa v24 (aa v23 (aa v22 (aa v21 aw)))))))))))))))))))))))))))))))))) kQ):Q:=h p
theorem OE {P Q:Prop} (p:P) (h:P→Q:=by intro kQ;exact ae (N:=25) (l:=[.int .i64 v,.slice A n c]) Tryz.func218 rfl rfl (by simp) kQ):Q:=h p
theorem vZ {P Q:Prop} (p:P) (h:P→Q:=by intro kQ;exact yi rfl (aq (wX rfl) aY) abr kQ):Q:=h p
theorem Tx {P Q:Prop} (p:P) (h:P→Q:=by intro kQ;exact aC 6 [[(2,none)],[(4,some 0)],[(1,none)],[(6,some 2)],[(7,some 3)],[(8,some 4)]] [(5,9),(4,8),(3,7),(2,6),(1,5),(0,4)] hh mixed abt kQ):Q:=h p
theorem De {P Q:Prop} (p:P) (h:P→Q:=by intro kQ;exact yY (fun _ hj=>(hj.hp.below.cell (ni hp)).trans hp) kQ):Q:=h p
theorem Ps {P Q:Prop} (p:P) (h:P→Q:=by intro kQ;exact bF (vs:=[_,_]) az.out rfl ((hr.ext hh.below).recAt PX.len hx) rfl abr kQ):Q:=h p
theorem Aq {P Q:Prop} (p:P) (h:P→Q:=by intro kQ;exact aZ hh (hc _ (hT.hp hh) hh.below) rfl kQ):Q:=h p
theorem Nt {P Q:Prop} (p:P) (h:P→Q:=by intro kQ;exact ae (N:=22) (l:=[.agg s.cells.toArray,.agg #[.bool a.neg,.string a.aO,.int .i64 a.e]]) Tryz.func67 rfl rfl (by simp) kQ):Q:=h p
theorem H4 {P Q:Prop} (p:P) (h:P→Q:=by intro kQ;exact aZ hh (yo s _ (hT.hp hh) ⟨hs.1.ok,hs.2.ok⟩) rfl kQ):Q:=h p
theorem rF {P Q:Prop} (p:P) (h:P→Q:=by intro kQ;exact bG az.out rfl ((hr.ext hh.below).vc hgi) abr kQ):Q:=h p
theorem z5 {P Q:Prop} (p:P) (h:P→Q:=by intro kQ;exact ae (N:=29) (l:=[.agg #[.slice A n c,.slice B m c2]]) Tryz.func39 rfl rfl (by simp) kQ):Q:=h p
theorem Il {P Q:Prop} (p:P) (h:P→Q:=by intro kQ;exact aZ hh (fk A n c ds _ (hS.ext hh.below) hn) rfl kQ):Q:=h p
theorem Oc {P Q:Prop} (p:P) (h:P→Q:=by intro kQ;exact aC 6 [[(1,none)],[(19,some 0)],[(20,some 1)],[(1,none)],[(22,some 3)],[(23,some 4)]] [(5,24),(4,23),(3,22),(2,21),(1,20),(0,19)] hh mixed abt kQ):Q:=h p
theorem O1 {P Q:Prop} (p:P) (h:P→Q:=by intro kQ;exact ay (aQ (aa v24 (aa v23 (aa v22 (aa v21 (aa v20 (aa v19 aw))))))) kQ):Q:=h p
theorem rR {P Q:Prop} (p:P) (h:P→Q:=by intro kQ;exact cQ hh (cs:=[_,_,_]) bq.out az.out (bC (eR rfl) dk) rfl rfl abr abr abr rfl abr kQ):Q:=h p
theorem Ts {P Q:Prop} (p:P) (h:P→Q:=by intro kQ;exact bQ hh (i:=5) rfl rfl rfl (hh.ao (i:=0) rfl) bq.out az.out rfl abr (by first|rfl|exact cS _|exact cn _|exact bg _|exact bj NR.one _) abq abq abr kQ):Q:=h p
theorem I9 {P Q:Prop} (p:P) (h:P→Q:=by intro kQ;exact du (k:=(n-1-k)) bq.out az.size rfl rfl abq abq abr kQ):Q:=h p
theorem Ek {P Q:Prop} (p:P) (h:P→Q:=by intro kQ;exact bG az.out rfl ((s1.ext hh.below).vc (by assumption)) abr kQ):Q:=h p
theorem JS {P Q:Prop} (p:P) (h:P→Q:=by intro kQ;exact bM hh (i:=3) (vs:=[_,_,_]) rfl rfl (eR rfl) rfl az.out rfl abq rfl kQ):Q:=h p
theorem S6 {P Q:Prop} (p:P) (h:P→Q:=by intro kQ;exact aC 8 [[(2,none)],[(4,some 0)],[(5,some 1)],[(1,none)],[(7,some 3)],[(8,some 4)],[(9,some 5)],[(10,some 6)]] [(7,11),(6,10),(5,9),(4,8),(3,7),(2,6),(1,5),(0,4)] hh mixed abt kQ):Q:=h p
theorem Ju {P Q:Prop} (p:P) (h:P→Q:=by intro kQ;exact bF (vs:=[_,_]) az.out rfl ((hr.ext hh.below).recAt FX.len hx) rfl abr kQ):Q:=h p
theorem Nx {P Q:Prop} (p:P) (h:P→Q:=by intro kQ;exact du (k:=m) bq.out az.size rfl rfl abq abq abr kQ):Q:=h p
theorem Ut {P Q:Prop} (p:P) (h:P→Q:=by intro kQ;exact kY [2] [0,1,0,3,15,31] 3 [[(4,none)],[(48,some 0)],[(5,none)]] [(2,50),(1,49),(0,48)] [([],3,[(1,49),(0,48)]),([2],2,[(2,50),(1,49),(0,48)])] hh mixed abt abt abr kQ):Q:=h p
theorem sG {P Q:Prop} (p:P) (h:P→Q:=by intro kQ;exact bF (vs:=[_,_,_,_,_,_]) az.out rfl ((hr.ext hh.below).recAt SR.len hs) rfl abr kQ):Q:=h p
theorem OW {P Q:Prop} (p:P) (h:P→Q:=by intro kQ;exact bQ hh (i:=2) rfl rfl rfl (hh.ao (i:=0) rfl) bq.out az.out rfl abr (by first|rfl|exact cS _|exact cn _|exact bg _|exact bj NR.one _) abq abq abr kQ):Q:=h p
theorem NI {P Q:Prop} (p:P) (h:P→Q:=by intro kQ;exact ae (N:=66) (l:=[.agg #[.slice f.A f.n f.a,.slice f.B f.m f.b],.slice E q cE]) Tryz.func123 rfl rfl (by simp) kQ):Q:=h p
theorem hU {P Q:Prop} (p:P) (h:P→Q:=by intro kQ;exact aZ hh (hck _ (hT.hp hh) hh.below) rfl kQ):Q:=h p
theorem qg {P Q:Prop} (p:P) (h:P→Q:=by intro kQ;exact GD (bI rfl (bJ (vs:=[_,_]) az.out (hh.aE (i:=2) (n:=2) rfl rfl) rfl) (dQ (eL rfl) cR)) kQ):Q:=h p
theorem zN {P Q:Prop} (p:P) (h:P→Q:=by intro kQ;exact aZ hh (hlk _ (hT.hp hh) hh.below) rfl kQ):Q:=h p
theorem M9 {P Q:Prop} (p:P) (h:P→Q:=by intro kQ;exact du (k:=j) bq.out az.size uQ rfl abq abq abr kQ):Q:=h p
theorem Uj {P Q:Prop} (p:P) (h:P→Q:=by intro kQ;exact ae (N:=26) (l:=[.agg #[.slice f.A f.n f.a,.slice f.B f.m f.b],.agg #[.slice g.A g.n g.a,.slice g.B g.m g.b]]) Tryz.func33 rfl rfl (by simp) kQ):Q:=h p
theorem Nw {P Q:Prop} (p:P) (h:P→Q:=by intro kQ;exact ae (N:=63) (l:=[.agg #[.slice f.A f.n f.a,.slice f.B f.m f.b],.agg #[.slice g.A g.n g.a,.slice g.B g.m g.b],.int .i64 p]) Tryz.func9 rfl rfl (by simp) kQ):Q:=h p
theorem Fl {P Q:Prop} (p:P) (h:P→Q:=by intro kQ;exact cQ hh (cs:=[_,_,_,_,_,_]) bq.out az.out (bC (eR rfl) dk) rfl rfl abr abr abr rfl abr kQ):Q:=h p
theorem Tl {P Q:Prop} (p:P) (h:P→Q:=by intro kQ;exact bQ hh (i:=3) rfl rfl rfl (hh.ao (i:=0) rfl) bq.out az.out rfl abr (by first|rfl|exact cS _|exact cn _|exact bg _|exact bj NR.one _) abq abq abr kQ):Q:=h p
theorem PQ {P Q:Prop} (p:P) (h:P→Q:=by intro kQ;exact ae (N:=44) (l:=[.agg #[.slice fx.A fx.n fx.a,.slice fx.B fx.m fx.b],.int .i64 ax,.agg #[.bool sn.neg,.string sn.aO,.int .i64 sn.e]]) Tryz.func161 rfl rfl (by simp) kQ):Q:=h p
theorem TD {P Q:Prop} (p:P) (h:P→Q:=by intro kQ;exact JV (bI rfl (bJ (vs:=[_,_]) az.out (hh.aE (i:=1) (n:=2) rfl rfl) rfl) (bI rfl (bJ (vs:=[_,_]) az.out (hh.aE (i:=0) (n:=2) rfl rfl) rfl) (dQ (eL rfl) cR))) kQ):Q:=h p
theorem Ub {P Q:Prop} (p:P) (h:P→Q:=by intro kQ;exact ae (N:=35) (l:=[.agg #[.slice g.A g.n g.a,.slice g.B g.m g.b],.agg #[.bool eps.neg,.string eps.aO,.int .i64 eps.e]]) Tryz.func16 rfl rfl (by simp) kQ):Q:=h p
theorem TQ {P Q:Prop} (p:P) (h:P→Q:=by intro kQ;exact aC 5 [[(6,none)],[(1,none)],[(5,none)],[(20,some 1),(21,some 2)],[(22,some 3)]] [(4,23),(3,22),(2,21),(1,20),(0,19)] hh mixed abt kQ):Q:=h p
theorem MG {P Q:Prop} (p:P) (h:P→Q:=by intro kQ;exact aC 9 [[(3,none)],[(13,some 0)],[(14,some 1)],[(5,none),(15,some 2)],[(16,some 3),(15,some 2)],[(0,none),(15,some 2)],[(3,none),(15,some 2)],[(18,some 5),(19,some 6),(15,some 2)],[(20,some 7),(15,some 2)]] [(8,21),(7,20),(6,19),(5,18),(4,17),(3,16),(2,15),(1,14),(0,13)] hh mixed abt kQ):Q:=h p
theorem Pz {P Q:Prop} (p:P) (h:P→Q:=by intro kQ;exact ay (aQ (aa v21 (aa v20 (aa v19 (aa v18 (aa v17 (aa v16 (aa v15 (aa v14 (aa v13 aw)))))))))) kQ):Q:=h p
theorem TN {P Q:Prop} (p:P) (h:P→Q:=by intro kQ;exact di (i:=4) rfl (fun ρ1 w1 hj hR=>(show ρ1 15=Value.bool _ from hR.2.1)) (fun ρ1 w1 hj hR=>aR ak.out (aq (show ρ1 16=Value.agg (List.toArray _) from hR.1) aY)) (fun w1 hj=>hc1 _ (hT.hp hj.hp)) kQ):Q:=h p
theorem Nh {P Q:Prop} (p:P) (h:P→Q:=by intro kQ;exact ae (N:=58) (l:=[.agg #[.int .i64 p.v,.slice p.A p.n p.c],.slice L n c,.slice M m mc]) Tryz.func151 rfl rfl (by simp) kQ):Q:=h p
theorem Dt {P Q:Prop} (p:P) (h:P→Q:=by intro kQ;exact bG az.out rfl ((hr.ext hh.below).vc hy2) abr kQ):Q:=h p
theorem Pb {P Q:Prop} (p:P) (h:P→Q:=by intro kQ;exact GD (bI rfl (bJ (vs:=[_,_]) az.out (hh.aE (i:=3) (n:=2) rfl rfl) rfl) (dQ (eL rfl) cR)) kQ):Q:=h p
theorem MA {P Q:Prop} (p:P) (h:P→Q:=by intro kQ;exact aC 12 [[(5,none)],[(0,none)],[(8,some 1)],[(7,some 0),(9,some 2)],[(10,some 3)],[(0,none),(11,some 4)],[(5,none),(11,some 4)],[(12,some 5),(13,some 6),(11,some 4)],[(14,some 7),(11,some 4)],[(15,some 8),(11,some 4)],[(3,none),(11,some 4)],[(17,some 10),(11,some 4)]] [(11,18),(10,17),(9,16),(8,15),(7,14),(6,13),(5,12),(4,11),(3,10),(2,9),(1,8),(0,7)] hh mixed abt kQ):Q:=h p
theorem Jc {P Q:Prop} (p:P) (h:P→Q:=by intro kQ;exact dG (yY (fun _ hj=>((hr.ext hj.hp.below).recAt TR.len ht).cell (i:=0) rfl) kQ)):Q:=h p
theorem O9 {P Q:Prop} (p:P) (h:P→Q:=by intro kQ;exact ay (aQ (aa v18 (aa v17 (aa v16 (aa v15 (aa v14 (aa v13 (aa v12 (aa v11 (aa v10 (aa v9 (aa v8 (aa v7 aw))))))))))))) kQ):Q:=h p
theorem OZ {P Q:Prop} (p:P) (h:P→Q:=by intro kQ;exact aC 12 [[(5,none)],[(0,none)],[(29,some 1)],[(28,some 0),(30,some 2)],[(31,some 3)],[(0,none),(32,some 4)],[(5,none),(32,some 4)],[(33,some 5),(34,some 6),(32,some 4)],[(35,some 7),(32,some 4)],[(36,some 8),(32,some 4)],[(3,none),(32,some 4)],[(38,some 10),(32,some 4)]] [(11,39),(10,38),(9,37),(8,36),(7,35),(6,34),(5,33),(4,32),(3,31),(2,30),(1,29),(0,28)] hh mixed abt kQ):Q:=h p
theorem NV {P Q:Prop} (p:P) (h:P→Q:=by intro kQ;exact ay (aQ (aa v39 (aa v38 (aa v37 (aa v36 (aa v35 (aa v34 (aa v33 (aa v32 (aa v31 (aa v30 (aa v29 (aa v28 aw))))))))))))) kQ):Q:=h p
theorem T7 {P Q:Prop} (p:P) (h:P→Q:=by intro kQ;exact aC 8 [[(6,none)],[(3,none)],[(63,some 1)],[(3,none)],[(65,some 3)],[(66,some 4)],[(64,some 2),(67,some 5)],[(68,some 6)]] [(7,69),(6,68),(5,67),(4,66),(3,65),(2,64),(1,63),(0,62)] hh mixed abt kQ):Q:=h p
theorem Uv {P Q:Prop} (p:P) (h:P→Q:=by intro kQ;exact ay (aQ (aa e69 (aa v68 (aa v67 (aa v66 (aa v65 (aa v64 (aa v63 (aa v62 aw))))))))) kQ):Q:=h p
theorem T5 {P Q:Prop} (p:P) (h:P→Q:=by intro kQ;exact bQ hh (i:=0) rfl rfl rfl (f69) bq.out az.out rfl abr (by first|rfl|exact cS _|exact cn _|exact bg _|exact bj NR.one _) abq abq abr kQ):Q:=h p
theorem Tg {P Q:Prop} (p:P) (h:P→Q:=by intro kQ;exact bF (vs:=[_,_,_]) az.out rfl ((hh.df (f:=TR.cells) (x:=t) (l:=G) (i:=1) rfl TR.len abr ht).drop 1) rfl abr kQ):Q:=h p
theorem EV {P Q:Prop} (p:P) (h:P→Q:=by intro kQ;exact bG az.out rfl (((hr.ext hh.below).recAt TR.len hx).cell (i:=0) rfl) abr kQ):Q:=h p
theorem TJ {P Q:Prop} (p:P) (h:P→Q:=by intro kQ;exact ae (N:=42) (l:=[.agg #[.int .i64 p.v,.slice p.A p.n p.c],.agg #[.bool c.neg,.string c.aO,.int .i64 c.e]]) Tryz.func190 rfl rfl (by simp) kQ):Q:=h p
theorem zR {P Q:Prop} (p:P) (h:P→Q:=by intro kQ;exact bG az.out rfl ((hh.below.cell (ni hp)).trans hp) abr kQ):Q:=h p
theorem SU {P Q:Prop} (p:P) (h:P→Q:=by intro kQ;exact aC 6 [[(8,none)],[(3,none)],[(21,some 1)],[(20,some 0),(22,some 2)],[(3,none)],[(24,some 4)]] [(5,25),(4,24),(3,23),(2,22),(1,21),(0,20)] hh mixed abt kQ):Q:=h p
theorem Tp {P Q:Prop} (p:P) (h:P→Q:=by intro kQ;exact a8 (i:=3) (fun ρ1 w1 hj hR=>xe (show ρ1 20=Value.int _ _ from hR.1) (show ρ1 22=Value.int _ _ from hR.2.1) abq abq abq) kQ):Q:=h p
theorem Qb {P Q:Prop} (p:P) (h:P→Q:=by intro kQ;exact ae (N:=46) (l:=[.agg #[.int .i64 p.v,.slice p.A p.n p.c],.agg #[.int .i64 q.v,.slice q.A q.n q.c],.slice L n c]) Tryz.func57 rfl rfl (by simp) kQ):Q:=h p
theorem Ms {P Q:Prop} (p:P) (h:P→Q:=by intro kQ;exact ae (N:=112) (l:=[.agg #[.int .i64 p.v,.slice p.A p.n p.c],.agg #[.int .i64 q.v,.slice q.A q.n q.c],.slice L n c,.agg #[.bool eps.neg,.string eps.aO,.int .i64 eps.e],.int .i64 grid,.int .i64 bu]) Tryz.func21 rfl rfl (by simp) kQ):Q:=h p
theorem NY {P Q:Prop} (p:P) (h:P→Q:=by intro kQ;exact bQ hh (i:=4) rfl rfl rfl (hh.ao (i:=0) rfl) bq.out az.out rfl abr (by first|rfl|exact cS _|exact cn _|exact bg _|exact bj NR.one _) abq abq abr kQ):Q:=h p
theorem N7 {P Q:Prop} (p:P) (h:P→Q:=by intro kQ;exact aW (i:=9) (cd _ 58 _) cd.ext (fun ρ1 w1 hj hR=>iP az.out hj.bl (fun v w2 h hb=>⟨hb,h⟩)) kQ):Q:=h p
theorem IF {P Q:Prop} (p:P) (h:P→Q:=by intro kQ;exact ae (N:=18) (l:=[.agg #[.bool a.neg,.string a.aO,.int .i64 a.e]]) Tryz.func56 rfl rfl (by simp) kQ):Q:=h p
theorem T0 {P Q:Prop} (p:P) (h:P→Q:=by intro kQ;exact ae (N:=49) (l:=[.slice B m d,.agg #[.bool eps.neg,.string eps.aO,.int .i64 eps.e],.int .i64 g,.int .i64 bu]) Tryz.func20 rfl rfl (by simp) kQ):Q:=h p
theorem Io {P Q:Prop} (p:P) (h:P→Q:=by intro kQ;exact yY (fun _ hj=>hE.ld (hj.hp.sub (.cons _ (.cons _ (aco _))))) kQ):Q:=h p
theorem Tn {p:Prop} (h:p:=by
  refine bX ?_;intro b4 w4 hh b5 w5 hh;refine zR ?_;exact AO):p:=h
theorem Ti {p:Prop} (h:p:=by
  refine dO ?_;refine eO (i:=4) abt rfl ?_;refine dF (k:=1) bq.out az.size rfl rfl abq abq abr ?_;exact TU):p:=h
theorem Tj {p:Prop} (h:p:=by
  refine bT ?_;intro ws hh;refine qg ?_;exact U8):p:=h
theorem SX {p:Prop} (h:p:=by
  refine dO ?_;refine eO (i:=2) abt rfl ?_;refine gE hh 3 [_,_] ?_;intro ws hh;replace hh:Hp _ (_::_::_::.blk _ _ [_,_] _::_) _:=hh;exact TH):p:=h
theorem Uz {p:Prop} (h:p:=by
  refine aj ?_;refine tG (b:=1) rfl rfl abq abr ?_;refine aj ?_;refine fG rfl rfl abr ?_;refine aj ?_;rw [hqd,hdn];refine ⟨⟨rfl,hh⟩, ?_⟩;exact dI):p:=h
theorem Tz {p:Prop} (h:p:=by
  refine aj ?_;refine tG (b:=1) rfl rfl abq abr ?_;refine aj ?_;refine fG rfl rfl abr ?_;refine aj ?_;rw [hqd,hrd];refine ⟨⟨q-1,rh+y1,rfl,rfl,hI2,hr3,hh⟩,by show ((q-1:Nat):Int).toNat<(q:Int).toNat;omega, ?_⟩;exact dI):p:=h
theorem Td {p:Prop} (h:p:=by
  refine dO ?_;refine eO (i:=3) abt rfl ?_;refine m9 hh 3 [_,_] ?_;exact Yp):p:=h
theorem S4 {p:Prop} (h:p:=by
  refine ⟨⟨i+1,_,abq,rfl,hS3.symm,hh⟩,by show n-(i+1)<n-i;omega, ?_⟩;exact dI):p:=h
theorem TP {p:Prop} (h:p:=by
  refine ⟨⟨j+1,abq,rfl,hh⟩,by show d-i+1-(j+1)<d-i+1-j;omega, ?_⟩;exact dI):p:=h
theorem TI {p:Prop} (h:p:=by
  exact ⟨_,_,by rw [e1],by rw [e1,e2];exact hh.sub (aby _ (acA _))⟩):p:=h
theorem UL {p:Prop} (h:p:=by
  rw [adL];split
  ·exact List.nodup_nil
  ·exact adI.2 ⟨by simp,List.nodup_nil⟩):p:=h
theorem O6 {p:Prop} (h:p:=by
  dsimp only [bA];clear hJ;refine aj ?_;exact ⟨rfl,hh.below⟩):p:=h
theorem MO {p:Prop} (h:p:=by
  exact ⟨none,0,0,rfl,(hh.sub (acA _)).cJ _ _⟩):p:=h
theorem Uk {p:Prop} (h:p:=by
  rintro e_ w7 ⟨A7,c7,rfl,hown_,hb_⟩;refine ⟨_,rfl, ?_⟩;replace hh:=hh.aD (x:=.row _ _ _ _ _ _) hb_ hown_;exact yT):p:=h
theorem Tw {p:Prop} (h:p:=by
  refine Ii ?_;exact ⟨rfl,hh.below⟩):p:=h
theorem UB {p:Prop} (h:p:=by
  refine rE ?_;exact ⟨rfl,hh.below⟩):p:=h
theorem NX {p:Prop} (h:p:=by
  rw [acC,Array.getElem?_replicate];split<;>rfl):p:=h
theorem Tu {p:Prop} (h:p:=by
  refine ae (N:=38) (l:=[.int .i64 v,.slice A n c]) Tryz.func73 rfl rfl (by simp) ?_;refine bX ?_;intro b4 w4 hh ws hh;exact Qp):p:=h
theorem N0 {p:Prop} (h:p:=by
  exact ⟨PX.nil,iy.err abr,rfl,(hh.sub (acA _)).Oy⟩):p:=h
theorem Tr {p:Prop} (h:p:=by
  refine ⟨⟨i,_,_,abq,rfl,by rw [d1];rfl,by rw [d1];exact hh⟩,by show ((i:Int)-1+1).toNat<((i:Int)+1).toNat;omega, ?_⟩;exact dI):p:=h
theorem UI {p:Prop} (h:p:=by
  refine ml ?_;refine dS (dS (dS (dS (dS ?_))));refine pO (i:=18) rfl (fun ρ1 w1 hj hR=>(show ρ1 33=Value.bool _ from hR.2.2.1)) abr ?_;refine Iz ?_;exact zW7):p:=h
theorem SV {p:Prop} (h:p:=by
  refine dO ?_;refine eO (i:=2) abt rfl ?_;refine gE hh 4 [_,_] ?_;intro ws hh;replace hh:Hp _ (_::_::_::_::.blk _ _ [_,_] _::_) _:=hh;exact Xn):p:=h
theorem NS {p:Prop} (h:p:=by
  refine ⟨_,rfl, ?_⟩;replace hh:=hh.join h3;simp only [abE,abC] at hh;exact Pk):p:=h
theorem Uu {p:Prop} (h:p:=by
  refine bT ?_;intro ws hh;replace hh:=hh.sub (acn _ _);refine ⟨⟨i+1,_,_,abq,rfl,hS3.symm,hpl,by unfold IR.v at hba ⊢;omega,hh⟩,by show n-(i+1)<n-i;omega, ?_⟩;exact dI):p:=h
theorem Tq {p:Prop} (h:p:=by
  simp only [adr,acW,abS,aep];refine ⟨h2,aeO.2 fun e he=> ?_⟩
  cases hb:Region.binds .any e with
  |false=>simp
  |true=>simpa [hb] using h3 e he hb):p:=h
theorem PK {p:Prop} (h:p:=by
  intro A7 c7 w7 hh;simp only [abK] at hh;rw [ab2] at hh ⊢;rw [abC] at hh;exact yT):p:=h
theorem UG {p:Prop} (h:p:=by
  have hik:i=k:=by
   rcases acj i k with h|h
   ·exact absurd ⟨i,h,h2,h3⟩ hex
   ·omega
  subst hik;refine ⟨i,h2,h3,fun j hj=> ?_⟩
  cases hc2:L.getD j false with
  |true=>rfl
  |false=>exact absurd ⟨j,hj,abq,hc2⟩ hex):p:=h
theorem Ui {p:Prop} (h:p:=by
  refine ae (N:=64) (l:=[.agg #[.int .i64 p.v,.slice p.A p.n p.c],.slice xA ys.length xc]) Tryz.func24 rfl rfl (by simp) ?_;refine bX ?_;intro b2 w2 hh b4 w4 hh;refine hU ?_;intro w15 hh;exact Qt):p:=h
theorem S7 {p:Prop} (h:p:=by
  refine ae (N:=52) (l:=[.agg #[.slice fx.A fx.n fx.a,.slice fx.B fx.m fx.b],.int .i64 bits]) Tryz.func49 rfl rfl (by simp) ?_;refine bX ?_;intro b2 w2 hh b4 w4 hh;refine hU ?_;intro w11 hh;exact Qt):p:=h
theorem UJ {p:Prop} (h:p:=by
  refine ae (N:=23) (l:=[.int .i64 i,.agg s.cells.toArray,.pointer (some p)]) Tryz.func108 rfl rfl (by simp) ?_;exact Tn):p:=h
theorem UD {p:Prop} (h:p:=by
  have h1:L.toList.countP (fun b=>b)=L.toList.length:=by
   have:=hI.ls;simp only [Array.length_toList];omega
  have h2:=List.countP_eq_length.1 h1;have h3:i<L.size:=by rw [hI.ls,hnn];exact hi
  have:=h2 L[i] (by simp);simpa [h3] using this):p:=h
theorem Jy {p:Prop} (h:p:=by
  refine ⟨⟨i+1,abq,rfl,hh⟩,by show (n-m/64)-(i+1)<(n-m/64)-i;omega, ?_⟩;exact dI):p:=h
theorem S8 {p:Prop} (h:p:=by
  refine au (hpu _ (hT.hp hh) hh.below) ak.out rfl abr ?_;rintro e_ w51 ⟨g,og,rfl,h3⟩;refine ⟨_,rfl, ?_⟩;replace hh:=hh.join h3;simp only [abE,abC] at hh;exact Tj):p:=h
theorem TZ {p:Prop} (h:p:=by
  obtain ⟨c,hc⟩:=ai (l:=s.data.toList) (k:=k) (by rw [←dY];exact hlt);have hb:=c.toNat_lt;by_cases h8:c.toNat<128
  ·refine aj ?_;refine ⟨⟨k+1,abq,rfl,by rw [al hc,JZ,hm];simpa using h8,rfl⟩,by show s.size-(k+1)<s.size-k;omega, ?_⟩;exact dI
  ·refine aj ?_;rw [L8 hc h8];exact ⟨rfl,Below.refl _ _⟩):p:=h
theorem T3 {p:Prop} (h:p:=by
  refine dO ?_;refine iQ 4 abr abt abr abt abt ?_;refine bT ?_;intro ws hh;refine JV (bI rfl (bJ (vs:=[_,_]) az.out (hh.aE (i:=1) (n:=2) rfl rfl) rfl) (bI rfl (bJ (vs:=[_,_]) az.out (hh.aE (i:=0) (n:=2) rfl rfl) rfl) (dQ (mi rfl) cR))) ?_;exact ⟨_,_,rfl,hh.below⟩):p:=h
theorem SQ {p:Prop} (h:p:=by
  have hq:q<4294967296:=abq;have hdn:=z8 b1 b0 hI abq;rw [←hyy] at hdn;have hqy:=hqy hq;refine aj ?_;refine gj rfl rfl abr ?_;refine aj ?_;refine gj (a:=4294967296) rfl rfl abr ?_;refine aj ?_;refine fG rfl rfl abr ?_;refine aj ?_;refine ⟨⟨acm (fun n:Nat=>Value.int IntKind.u64 n) hdn,hh⟩, ?_⟩;exact dI):p:=h
theorem Ob {p:Prop} (h:p:=by
  refine ae (N:=34) (l:=[.int .i64 v,.int .i64 x]) Tryz.func189 rfl rfl (by simp) ?_;refine bT ?_;intro b4 w4 hh;refine aZ hh (hfw _) rfl ?_;intro w8 hh;refine bT ?_;intro ws hh;exact Qp):p:=h
theorem S9 {p:Prop} (h:p:=by
  refine aj ?_;refine bF (vs:=[_,_,_]) az.out rfl ((hr.ext hh.below).recAt NR.len ha) rfl abr ?_;refine bX ?_;intro b5 w5 hh ws hh;refine aZ hh (ct a _) rfl ?_;intro w14 hh;generalize a.i.sign=g at*;refine aj ?_;refine ⟨⟨i+1,g,abq,rfl,rfl,hs0,abq,abq,hh.sub (acA _)⟩,by show n-(i+1)<n-i;omega, ?_⟩;exact dI):p:=h
theorem Uq {p:Prop} (h:p:=by
  refine bX ?_;intro b4 w4 hh ws hh;refine Aq ?_;intro w13 hh;refine aj ?_;replace hh:=hh.sub (abA _ (aby _ abV));refine ⟨⟨i+1,abq,rfl,by rw [al hx,aeg,hall,aef,aex,abR abq];rfl,hh⟩,by show n-(i+1)<n-i;omega, ?_⟩;exact dI):p:=h
theorem TV {p:Prop} (h:p:=by
  refine OE ?_;refine bX ?_;intro b2 w2 hh b4 w4 hh;refine aZ hh (hfw _) rfl ?_;intro w7 hh;refine aj ?_;refine vZ ?_;refine aj ?_;refine aZ hh (han _ _ hh.below (hh.ej (i:=1) (o:=0) rfl rfl)) rfl ?_;intro w12 hh;refine bT ?_;intro ws hh;exact Qp):p:=h
theorem TU {p:Prop} (h:p:=by
  refine dO ?_;refine eO (i:=5) abt rfl ?_;refine bF (vs:=[_,_]) az.out rfl (hh.df (f:=FX.cells) (x:=y) (l:=[x,y]) (i:=0) rfl FX.len abr hy0) rfl abr ?_;exact Xv):p:=h
theorem vH {p:Prop} (h:p:=by
  refine ⟨⟨i+1,abq,rfl,hh⟩,by show n-(i+1)<n-i;omega, ?_⟩;exact dI):p:=h
theorem Up {p:Prop} (h:p:=by
  refine ae (N:=23) (l:=[.int .i64 i,.agg s.cells.toArray,.pointer (some p)]) Tryz.func108 rfl rfl (by simp) ?_;refine bX ?_;intro b4 w4 hh b5 w5 hh;refine zR ?_;refine aj ?_;refine zR ?_;refine aj ?_;refine T4 rfl rfl abq abr ?_;refine aj ?_;refine Me rfl rfl abr ?_;rw [hm2];exact AO):p:=h
theorem Tb {p:Prop} (h:p:=by
  have hil:i<l.length:=abq;have hE:=hedge i hil;have ho:l.toArray[i]?=some l[i]:=by simp [hil]
  rw [ho] at hE;have hmem:i∈Region.ready .any l.toArray L:=(hready_spec i).2 ⟨hil,by
   have h3:i<L.size:=by rw [hI.ls,hnn];exact hil
   rw [acC] at hu ⊢;rw [adW h3] at hu ⊢;simpa using hu,l[i],ho,fun e he hb=>by
   have:=aeO.1 hE e he;simp only [hb,aeo,ace,ab1] at this;exact hlow _ this⟩
  rw [hnil] at hmem
  cases hmem):p:=h
theorem Ta {p:Prop} (h:p:=by
  refine fG rfl rfl abr ?_;refine aj ?_;refine Pe ?_;refine aj ?_;refine NG ?_;intro ws hh;simp only [abK] at hh;rw [hand,es,abZ,cu (by rw [hll];omega),rP,←b1,hfk] at hh;refine aj ?_;refine mY (s:=1) (m:=2) rfl rfl abr abr abr ?_;refine aj ?_;rw [es];refine ⟨⟨i+1,abq,rfl,by rw [b2];rfl,hh⟩,by show K-(i+1)<K-i;omega, ?_⟩;exact dI):p:=h
theorem TL {p:Prop} (h:p:=by
  intro w24 hh;refine aZ hh (hs _ (hT.hp hh)) rfl ?_;intro w25 hh;refine rR ?_;intro b26 w26 hh;refine qm ?_;intro A27 c27 w27 hh;simp only [abK,ab9] at hh;replace hh:=hh.sub (acn _ _);refine aj ?_;refine ⟨⟨i+1,c27,A27,abq,rfl,rfl, ?_⟩,by show n-(i+1)<n-i;omega, ?_⟩
  ·rw [he,bo];exact hh
  ·exact dI):p:=h
theorem TH {p:Prop} (h:p:=by
  refine dO ?_;refine iQ 3 abr abt abr abt abt ?_;refine gE hh 2 [_,_] ?_;intro ws hh;replace hh:Hp _ (_::_::.blk _ _ [_,_] _::_) _:=hh;refine aB (aJ (yp ?_));refine JV (bI rfl (bJ (vs:=[_,_]) az.out (hh.aE (i:=3) (n:=2) rfl rfl) rfl) (bI rfl (bJ (vs:=[_,_]) az.out (hh.aE (i:=2) (n:=2) rfl rfl) rfl) (dQ (mi rfl) cR))) ?_;exact ⟨rfl,hh.below⟩):p:=h
theorem Um {p:Prop} (h:p:=by
  refine aC 13 [[(2,none)],[(24,some 0)],[(2,none)],[(26,some 2)],[(3,none)],[(28,some 4)],[(27,some 3),(29,some 5)],[(25,some 1),(30,some 6)],[(3,none)],[(32,some 8)],[(31,some 7),(33,some 9)],[(3,none)],[(35,some 11)]] [(12,36),(11,35),(10,34),(9,33),(8,32),(7,31),(6,30),(5,29),(4,28),(3,27),(2,26),(1,25),(0,24)] hh mixed abt ?_;refine dw ?_;refine da 2 [_,_] ?_;refine dw ?_;refine fF 2 ?_;refine dw ?_;refine fF 1 ?_;refine uS ?_;refine dC (fun _ hj=>hshl _) ?_;refine dw ?_;refine da 1 [_,_] ?_;refine dC (fun _ hj=>hpl _) ?_;refine dw ?_;refine fF 1 ?_;refine av ?_;intro f W hJ hV;have hb_8:=hJ.bl;obtain ⟨v36,v35,v34,v33,v32,v31,v30,v29,v28,v27,v26,v25,v24,_⟩:=hV;replace hh:=hJ.hp;refine ay (aQ (aa v36 (aa v35 (aa v34 (aa v33 (aa v32 (aa v31 (aa v30 (aa v29 (aa v28 (aa v27 (aa v26 (aa v25 (aa v24 aw)))))))))))))) ?_;dsimp only [bA];clear hJ;refine aZ hh (hmk _) rfl ?_;intro w37 hh;exact AO):p:=h
theorem Di {p:Prop} (h:p:=by
  refine g7 (hc _ hh.below) ak.out rfl rfl abr ?_;rintro e_ w16 ⟨rfl,hb_⟩;refine ⟨_,rfl, ?_⟩;replace hh:=hh.ext hb_;refine aj ?_;refine ⟨⟨i+1,abq,rfl,by rw [al hz,aeg,hall,aef,aex,gz];rfl,hh⟩,by show n-(i+1)<n-i;omega, ?_⟩;exact dI):p:=h
theorem To {p:Prop} (h:p:=by
  refine dO ?_;refine eO (i:=8) abt rfl ?_;refine g7 (hsm _ (hT.hp hh)) ak.out rfl rfl abr ?_;rintro e_ w41 ⟨rfl,hb_⟩;refine ⟨_,rfl, ?_⟩;replace hh:=hh.ext hb_;refine dO ?_;refine eO (i:=9) abt rfl ?_;refine Ev ?_;intro b42 w42 hh;refine dO ?_;refine eO (i:=10) abt rfl ?_;refine qm ?_;intro A43 c43 w43 hh;simp only [abK,ab9] at hh;replace hh:=hh.sub (acn _ _);refine dO ?_;refine iQ 15 abr abt abr abt abt ?_;refine aj ?_;replace hh:=hh.sub (aby _ abV);refine ⟨⟨_,n-1,c-1,X,_,m-1,c2-1,Y,O++[⟨x.m,nR (x.c.d+y.c.d)⟩],A43,c43,rfl,rfl, ?_,abq,abq,hSt,hSt2,hmg.both h1 h2 hk, ?_⟩,by show (n-1)+(m-1)<n+m;omega, ?_⟩
  ·exact Zu
  ·rw [abJ,bo];exact hh
  ·exact dI):p:=h
theorem Tt {p:Prop} (h:p:=by
  obtain ⟨hq1,hI2⟩:=Ke b1 abq abq hI hb;have hqd:(q+18446744073709551616-1) % 18446744073709551616=q-1:=abq;have hrd:(rh+y1) % 18446744073709551616=rh+y1:=abq;by_cases hr2:4294967296≤rh+y1
  ·have hdn:=GH b1 b0 hI2 abq hr2;rw [←hyy] at hdn;by_cases hq:4294967296≤q
   ·exact Uz
   ·have hqy:=hqy abq;refine aj ?_;refine gj rfl rfl abr ?_;refine aj ?_;refine gj (a:=4294967296) rfl rfl abr ?_;refine aj ?_;refine fG rfl rfl abr ?_;exact Uz
  ·have hr3:rh+y1<4294967296:=abq;by_cases hq:4294967296≤q
   ·exact Tz
   ·have hqy:=hqy abq;refine aj ?_;refine gj rfl rfl abr ?_;refine aj ?_;refine gj (a:=4294967296) rfl rfl abr ?_;refine aj ?_;refine fG rfl rfl abr ?_;exact Tz):p:=h
theorem T9 {p:Prop} (h:p:=by
  clear hh;rintro ρ' w' ⟨m,A,c,hm0,hm1,hh⟩;have hcell:=hE.ld (hh.sub (.cons _ (.cons _ (aco _))));obtain ⟨q,rfl⟩:∃q,m=q+1:=⟨m-1,abq⟩;refine aj ?_;refine bG az.out rfl (hcell) abr ?_;by_cases hmn:q+1≤n
  ·have hdm:=fun A cc w1 hT1 hS1=>eC A 2 cc [nR (x.d^q),x] w1 hT1 hS1 (by simpa using ⟨(hpow q abq).ok abr,hx.1⟩) 128000 (by simpa [a6] using ⟨hpow q abq,hx.2.mono abq⟩) abr abr;rw [show gO ([nR (x.d^q),x].map NR.d)=x.d^(q+1) by show 1*(nR (x.d^q)).d*x.d=_;rw [a6,adq,aeh]] at hdm;have hq0:=P4 (x:=x.d) (show q<q+1 by omega);obtain ⟨gq,rfl⟩:=hh.bP (i:=3) rfl abq;refine aj ?_
   refine db [] [0] [0,0,2,6,14,0,32,96,224,0,512,1536,3584,7680,15872,32736,65504,0,262112,524256,1048544,2097150,4194303,8388607,16777215] 21 [[(0,none)],[(0,none)],[(31,some 1)],[(32,some 2)],[(33,some 3)],[(0,none)],[(35,some 5)],[(36,some 6)],[(37,some 7)],[(0,none)],[(39,some 9)],[(40,some 10)],[(41,some 11)],[(42,some 12)],[(43,some 13)],[(38,some 8),(44,some 14)],[(45,some 15)],[(4,none)],[(46,some 16),(47,some 17)],[(48,some 18)],[(49,some 19)]] [(20,50),(19,49),(18,48),(17,47),(16,46),(15,45),(14,44),(13,43),(12,42),(11,41),(10,40),(9,39),(8,38),(7,37),(6,36),(5,35),(4,34),(3,33),(2,32),(1,31),(0,30)] hh mixed abt dx rfl (by repeat (first|exact bV|refine bD ?_|refine bU ?_)) ?_;refine Wt ?_;refine Wt ?_;refine Yx ?_;refine CB ?_;refine Io ?_;refine Wt ?_;refine Yx ?_;refine CB ?_;refine Io ?_;refine Wt ?_;refine Yx ?_;refine CB ?_;refine Io ?_;refine pY ?_;refine uS ?_;refine CN (q) ?_;refine p9 [_,_,_] (fun _ hj=>hj.hp.df (f:=NR.cells) (x:=nR (x.d^q)) (l:=zd x.d (q+1)) (i:=3) rfl NR.len abr hq0) ?_;refine da 1 [_,_,_] ?_
   refine uW [_,_,_,_,_,_] ?_;refine aW (i:=19) (Is (.agg #[.bool (nR (x.d^(q+1))).neg,.string (nR (x.d^(q+1))).aO,.int .i64 (nR (x.d^(q+1))).e])) Is.ext ?_ ?_
   ·exact Zw
   refine uW [_,_,_] ?_;refine av ?_;intro f W hJ hV _;have hb_4:=hJ.bl;obtain ⟨v50,v49,v48,v47,v46,v45,v44,v43,v42,v41,v40,v39,v38,v37,v36,v35,v34,v33,v32,v31,v30,_⟩:=hV;obtain ⟨A48,c48,e48,f48⟩:Rows _ _ _ (f 18) W:=v48;obtain ⟨A50,c50,e50,f50⟩:Rows _ _ _ (f 20) W:=v50;replace hh:=hJ.hp;refine ay (aQ (aa e50 (aa v49 (aa e48 (aa v47 (aa v46 (aa v45 (aa v44 (aa v43 (aa v42 (aa v41 (aa v40 (aa v39 (aa v38 (aa v37 (aa v36 (aa v35 (aa v34 (aa v33 (aa v32 (aa v31 (aa v30 aw)))))))))))))))))))))) ?_;dsimp only [bA];clear e48 e50 hJ;refine bQ hh (i:=3) rfl rfl rfl (f50) bq.out az.out rfl abr (by first|rfl|exact cS _|exact cn _|exact bg _|exact bj NR.one _) abq abq abr ?_;intro A51 c51 w51 hh;simp only [abK,ab9] at hh;refine aj ?_;replace hh:=hh.perm (acf (l₁:=[_,_]));simp only [abE,abC] at hh;refine hE.st (v':=.slice A51 (q+1+1) c51) hh rfl rfl rfl az.out rfl ?_;intro ws hh;replace hh:=hh.perm (acf (l₁:=[_,_]));simp only [abE,abC] at hh;replace hh:=hh.perm (acf (l₁:=[_,_]))
   simp only [abE,abC] at hh;refine aj ?_;have e1:ar NR.cells (zd x.d (q+1))++[.bool (nR (x.d^(q+1))).neg,.string (nR (x.d^(q+1))).aO,.int .i64 (nR (x.d^(q+1))).e]=ar NR.cells (zd x.d (q+1+1)):=by rw [show zd x.d (q+1+1)=zd x.d (q+1)++[nR (x.d^(q+1))] from CS _ _,bo,mD];rfl
   rw [e1] at hh;have hcell2:=hE.ld (hh.sub (.cons _ (.cons _ (aco _))));refine ⟨⟨q+1+1,_,_,abq,abq,hh⟩, ?_, ?_⟩
   ·unfold P8;rw [hcell,hcell2];show n+1-(q+1+1)<n+1-(q+1);omega
   ·exact dI
  ·exact YS):p:=h
theorem Te {p:Prop} (h:p:=by
  unfold kC;rw [hsl,hgd,hns,aeF,adQ,acb]
  rfl):p:=h
theorem Tv {p:Prop} (h:p:=by
  exact acm (Value.int IntKind.i64) (show (n:Int)-1=(n:Int)-1-(0:Nat) by omega)):p:=h
theorem Us {p:Prop} (h:p:=by
  refine ⟨by grind,fun x hx=> ?_⟩
  rcases abO.1 hx with rfl|hx
  ·grind
  ·exact h2 x hx):p:=h
theorem Uy {p:Prop} (h:p:=by
  rw [acP abq,hl,acs,adt,acY,hx]):p:=h
theorem Ug {p:Prop} (h:p:=by
  have h1:bN m≠0:=fun h=>h0 (by rw [h,kG]);rw [abQ h1];exact ⟨rfl,hh.below⟩):p:=h
theorem OK {p:Prop} (h:p:=by
  refine aj ?_;exact ⟨by rw [abQ hg],hh.below⟩):p:=h
theorem PF {p:Prop} (h:p:=by
  have:=hI.vs p.1 p.2 h1 (hall _ h1) h2;rw [h2];exact this):p:=h
theorem Th {p:Prop} (h:p:=by
  by_cases hjm:j=μ
  ·subst hjm;rw [eμ] at hu ⊢;exact hst u w1 w2 hu hv.1
  ·exact hsw j hjm u w1 w2 hu):p:=h
theorem TA {p:Prop} (h:p:=by
  obtain ⟨cs,h6,h7⟩:=h5 i abq;rw [hc] at h6;obtain ⟨a,rfl,h8⟩:=one _ _ _ h7;exact ⟨a,h6,h8⟩):p:=h
theorem Ux {p:Prop} (h:p:=by
  refine aj ?_;rw [Nat.sub_eq_zero_of_le abq,abR abq,kG];exact ⟨rfl,hh.below⟩):p:=h
theorem S5 {p:Prop} (h:p:=by
  refine aj ?_;rw [←hcut,abJ,abP,acQ abq];exact ⟨rfl,hh.below⟩):p:=h
theorem Ud {p:Prop} (h:p:=by
  have:=hp t (lE t ht) (i+1) (by rw [ab0];omega);rwa [show j+1+i=j+(i+1) by omega]):p:=h
theorem UF {p:Prop} (h:p:=by
  have h1:bN m=0:=by rw [←kG] at h0;exact GB h0
  rw [abR abq];exact ⟨rfl,hh.below⟩):p:=h
theorem T2 {p:Prop} (h:p:=by
  induction xs generalizing ys c with
  |nil=>exact Dg.nil
  |cons x xs ih=>exact Dg.cons (ab4 _ hB) (ih _ _)):p:=h
theorem S1 {p:Prop} (h:p:=by
  cases p with
  |nil=>show Sz k (nR 0).d;rw [a6];exact Sz.zero k
  |cons t p=>exact (hok t abF).2):p:=h
theorem Uw {p:Prop} (h:p:=by
  intro ρ1 w1 hj hR;exact let ⟨g,u,e1,e2⟩:=hR.1;cY rfl (dT (vs:=[_,_]) e1 rfl) ⟨Below.refl _ _,rfl⟩):p:=h
theorem Ny {p:Prop} (h:p:=by
  refine aj ?_;exact ⟨by rw [abR abq],hh.below⟩):p:=h
theorem TK {p:Prop} (h:p:=by
  rw [show (18446744073709551616:Nat)=2^64 from rfl,←acv];exact ach abq abq):p:=h
theorem OL {p:Prop} (h:p:=by
  rw [jn abq (gu abq _ _),cG hbd]):p:=h
theorem TM {p:Prop} (h:p:=by
  rw [acs,ae2,acg] at hh;refine aj ?_;exact ⟨_,rfl,hh.at_ (i:=0) rfl,hh.below⟩):p:=h
theorem VD {p:Prop} (h:p:=by
  exact ⟨PX.nil,iy.err he,rfl,(hh.sub (acA _)).Oy⟩):p:=h
theorem Vu {p:Prop} (h:p:=by
  refine aj ?_;exact ⟨_,_,rfl,World.ownsRow_nil _ _ _ _,hh.below⟩):p:=h
theorem WK {p:Prop} (h:p:=by
  exact acm (Value.int IntKind.i64) (show (n:Int)-1-(k:Int)-1=(n:Int)-1-((k+1:Nat):Int) by omega)):p:=h
theorem XC {p:Prop} (h:p:=by
  intro ρ1 w1 hj hR;exact let ⟨g,u,e1,e2⟩:=hR.1;cY rfl (dT (vs:=[_,_]) e1 rfl) ⟨Below.refl _ _,g,u,rfl,e2⟩):p:=h
theorem Zu {p:Prop} (h:p:=by
  show Value.slice _ (O.length+1) _=Value.slice _ (O++[(⟨x.m,nR (x.c.d+y.c.d)⟩:TR)]).length _;rw [abJ]
  rfl):p:=h
theorem Yf {p:Prop} (h:p:=by
  have:=vL n zc;rw [hzl] at this;unfold madeCells;rw [hzc];have e2:zc.toArray.size=sz:=by simpa using hzl
  rw [e2,this]):p:=h
theorem Sr {p:Prop} (h:p:=by
  rw [hd] at h1;rw [hd];exact ⟨_,_,rfl,h1,hh.below⟩):p:=h
theorem V9 {p:Prop} (h:p:=by
  unfold fY at this;rw [abS,ab1] at this;omega):p:=h
theorem XM {p:Prop} (h:p:=by
  refine aj ?_;refine uI bq.out bq.out bq.out rfl (hh.ao (i:=0) rfl) abr ?_;refine aj ?_;exact ⟨rfl,hh.below⟩):p:=h
theorem Xp {p:Prop} (h:p:=by
  unfold Program.cellsOf at hc
  cases hi:P.info? fd.type with
  |none=>simp [hi] at hc
  |some i=>exact ⟨i,rfl,by simpa [hi] using hc⟩):p:=h
theorem Vz {p:Prop} (h:p:=by
  cases rest with
  |nil=>simp at hlen;omega
  |cons x r=>exact ⟨x,r,rfl⟩):p:=h
theorem VG {p:Prop} (h:p:=by
  have:=hready (k-m) abq;rwa [show m+(k-m)=k by omega] at this):p:=h
theorem Xq {p:Prop} (h:p:=by
  refine bX ?_;intro b2 w2 hh b3 w3 hh;refine aZ hh (gh a b _ (hT.hp hh) ha hb) rfl ?_;intro w7 hh;refine aj ?_;rw [e1];exact ⟨rfl,hh.below⟩):p:=h
theorem Xt {p:Prop} (h:p:=by
  have h2:=hD (i+1) e (by simpa using he);refine ⟨h2.1,fun t ht=> ?_⟩;have h3:=h2.2 t (lE t ht);rwa [show j+1+i=j+(i+1) by omega]):p:=h
theorem Qk {p:Prop} (h:p:=by
  rw [ho] at ho';injection ho' with ho';subst ho';exact hed):p:=h
theorem XI {p:Prop} (h:p:=by
  refine ⟨abq, ?_⟩;by_cases hc:x0+2^i*(x1 % 2)<y0+2^i*(y1 % 2)
  ·rw [abx hc];rw [hlt] at hc;omega
  ·rw [abw hc];rw [hlt] at hc;omega):p:=h
theorem Vp {p:Prop} (h:p:=by
  rw [Int.sign_eq_zero_iff_zero];exact ⟨fun h=>by unfold NR.d;rw [h];rfl,uJ⟩):p:=h
theorem We {p:Prop} (h:p:=by
  rcases adw n with h|h
  ·exact h
  ·obtain ⟨_,h1,_⟩:=hS.2 h;cases h1):p:=h
theorem W9 {p:Prop} (h:p:=by
  refine GD (bI rfl (bJ (vs:=[_,_,_,_,_,_]) az.out (hh.aE (i:=6) (n:=6) rfl rfl) rfl) (dQ (eL rfl) cR)) ?_;exact ⟨rfl,hh.below⟩):p:=h
theorem Vj {p:Prop} (h:p:=by
  obtain ⟨y,hy,hyb⟩:=ac0.1 hm;have:=(fg (hs.own y hy) hyb).2;omega):p:=h
theorem XF {p:Prop} (h:p:=by
  refine bT ?_;intro ws hh;refine Kt (bI rfl (bJ (vs:=[_,_,_,_,_,_]) az.out (hh.aE (i:=1) (n:=6) rfl rfl) rfl) cR) ?_;exact ⟨rfl,hh.below⟩):p:=h
theorem Zw {p:Prop} (h:p:=by
  intro ρ1 w1 hj hR;obtain ⟨A48,c48,h48,s48⟩:=hR.1;exact bp rfl (aR ak.out (aq h48 aY)) (hdm A48 c48 _ (hT.hp hj.hp) s48) (fun _ _ hq=>⟨_,hq.1,hq.2,rfl⟩)):p:=h
theorem XZ {p:Prop} (h:p:=by
  refine aj ?_;refine bG az.out rfl (EB hr (cM hx) rfl) abr ?_;refine aj ?_;obtain ⟨e1,e2⟩:=U9 hx (by simp [dN];omega);rw [e1,e2];exact ⟨rfl,hh.below⟩):p:=h
theorem Ov {p:Prop} (h:p:=by
  rw [abI,acy abq]
  rfl):p:=h
theorem WU {p:Prop} (h:p:=by
  have e1:(O++X++Y).length=O.length+n+m:=by rw [abJ,abJ];omega
  exact ⟨O++X++Y,A74,c74,hd,by rw [e1],by rw [e1,bo,bo];exact hh⟩):p:=h
theorem Yh {p:Prop} (h:p:=by
  refine tR bq.out rfl abr ?_;refine mI ?_;refine JR rfl rfl abr ?_;refine aj ?_;rw [abG (by rw [←dY];omega)] at hm;rw [hm];exact ⟨rfl,Below.refl _ _⟩):p:=h
theorem Xx {p:Prop} (h:p:=by
  refine ae (N:=58) (l:=[.agg #[.int .i64 v,.slice A n c]]) Tryz.func65 rfl rfl (by simp) ?_;refine bT ?_;intro b1 w1 hh;refine aZ hh (hfw _) rfl ?_;intro w7 hh;refine aj ?_;exact ⟨rfl,hh.below⟩):p:=h
theorem W4 {p:Prop} (h:p:=by
  rw [htk,hpt,hsd] at htc;refine au (htc) ak.out rfl abr ?_;rintro e_ w_ ⟨rfl,hh⟩;refine ⟨_,rfl, ?_⟩;refine aj ?_;exact ⟨rfl,hh.sub (.cons_cons _ (.cons _ (.cons _ (aco _))))⟩):p:=h
theorem Vf {p:Prop} (h:p:=by
  refine aj ?_;refine aZ hh (kK _ (hT.hp hh)) rfl ?_;intro w41 hh;refine aj ?_;exact ⟨rfl,hh.below⟩):p:=h
theorem Yj {p:Prop} (h:p:=by
  refine bT ?_;intro ws hh;refine Kt (bI rfl (bJ (vs:=[_,_,_]) az.out (hh.aE (i:=1) (n:=3) rfl rfl) rfl) cR) ?_;rw [abG abq] at hS2;rw [hS2];exact ⟨rfl,hh.below⟩):p:=h
theorem Wf {p:Prop} (h:p:=by
  refine ae (N:=9) (l:=[.int .i64 v]) Tryz.func114 rfl rfl (by simp) ?_;refine aj ?_;exact ⟨rfl,hh.below⟩):p:=h
theorem X3 {p:Prop} (h:p:=by
  rw [hu];refine bT ?_;intro ws hh;refine Ii ?_;rw [abG abq] at hS2;rw [hS2];exact ⟨rfl,hh.below⟩):p:=h
theorem Wz {p:Prop} (h:p:=by
  refine bT ?_;intro ws hh;refine qg ?_;exact ⟨PX.nil,iy.err he0,rfl,(hh.sub (acA _)).Oy⟩):p:=h
theorem XJ {p:Prop} (h:p:=by
  rw [hod2] at ho;refine aj ?_;refine vZ ?_;refine aj ?_;refine aZ hh (ho _ (Below.refl _ _)) rfl ?_;intro w24 hh;refine aj ?_;exact ⟨by rw [abx (.inr rfl)],hh.below⟩):p:=h
theorem XP {p:Prop} (h:p:=by
  have hr0:rest=[]:=adB abq;subst hr0;refine aj ?_;refine QU (by first|exact .inr rfl|exact .inl rfl) rfl  ?_;rw [acg,il,acg] at*;rw [←heq];exact ⟨rfl,hh⟩):p:=h
theorem Yo {p:Prop} (h:p:=by
  refine JV (bI rfl (bJ (vs:=[_,_,_,_,_,_,_,_]) az.out (hh.aE (i:=1) (n:=8) rfl rfl) rfl) (dQ (eL rfl) (dQ (eL rfl) cR))) ?_;exact MO):p:=h
theorem VC {p:Prop} (h:p:=by
  refine aj ?_;refine rF ?_;refine aj ?_;exact ⟨by rw [hc],hh.below⟩):p:=h
theorem XK {p:Prop} (h:p:=by
  have h1:(Op.equal 33 (.agg #[.bool s,.string a,.int .i64 e]) (.agg #[.bool s',.string a',.int .i64 e'])).run Tryz.prog w=.ok r w:=by rw [←hr];exact NO 9997 s s' a a' e e' w
  simp only [execOp,hx,hy];simp [eqGuard,binOp,h1]):p:=h
theorem VX {p:Prop} (h:p:=by
  intro ρ1 w1 hj hR;exact let ⟨g,u,e1,e2⟩:=hR.1;cY rfl (dT (vs:=[_,_,_]) e1 rfl) ⟨Below.refl _ _,g,u,rfl,e2⟩):p:=h
theorem Ye {p:Prop} (h:p:=by
  rw [hod2] at ho;refine aj ?_;refine vZ ?_;refine aj ?_;refine aZ hh (ho _ (Below.refl _ _)) rfl ?_;intro w24 hh;refine aj ?_;refine ⟨?_,hh.below⟩;rw [abw];rintro (h|h)
  ·omega
  ·cases h):p:=h
theorem XA {p:Prop} (h:p:=by
  have h1:M<256^(aK 256 M).length:=m0 abq M;rw [MJ abq h1,acs,ae2,acg,Lr (fun d hd=>(ea (B:=256) abq M).1 d (adp.1 hd)),sb,List.map_reverse]):p:=h
theorem Ys {p:Prop} (h:p:=by
  rintro e a' w' ⟨ρ',hf',hq⟩;have e1:(fun i=>a.tmps.getD i undef)=ρ:=funext hf.at_;have e2:(fun i=>a'.tmps.getD i undef)=ρ':=funext hf'.at_
  cases e with
  |normal=>exact ⟨⟨ρ',hf',hq.1⟩,by rw [e1,e2];exact hq.2⟩
  |_=>exact ⟨ρ',hf',hq⟩):p:=h
theorem XU {p:Prop} (h:p:=by
  refine bT ?_;intro ws hh;refine JV (bI rfl (bJ (vs:=[_,_,_,_,_,_,_,_]) az.out (hh.aE (i:=2) (n:=8) rfl rfl) rfl) (dQ (eL rfl) (dQ (eL rfl) cR))) ?_;exact MO):p:=h
theorem Xa {p:Prop} (h:p:=by
  have h1:z.natAbs=y.natAbs*2^j:=by rw [←hyz,adu,ad3];rfl
  have h2:y.natAbs*1≤y.natAbs*2^j:=acd _ (ab7 abq);have h3:bf y.natAbs≤8*a.size:=cW abq;rw [kf];omega):p:=h
theorem QO {p:Prop} (h:p:=by
  rw [acC] at hun ⊢;rw [adW hiL] at hun ⊢;simpa using hun):p:=h
theorem Vx {p:Prop} (h:p:=by
  refine adN fun hn=>hall fun i hi=> ?_
  cases hc2:L.getD i false with
  |true=>rfl
  |false=>exact absurd ⟨i,hi,hc2⟩ hn):p:=h
theorem UP {p:Prop} (h:p:=by
  refine full L a w (fuel+1) hI hall ?_;have hL:L=iY l.length m:=sj (by rw [hI.ls,hnn]) hml hall hI.tl;rw [hL,Hq] at hc;omega):p:=h
theorem VR {p:Prop} (h:p:=by
  intro ρ1 w1 hj hR;exact bp rfl (aR ak.out (aq rfl (aq rfl aY))) (u7 1 0 P1 _ rfl) (fun _ _ ⟨v,hq,hp,hb⟩=>⟨v,hq,hb,hp⟩)):p:=h
theorem Rs {p:Prop} (h:p:=by
  exact abv):p:=h
theorem X1 {p:Prop} (h:p:=by
  have e2:ar TR.cells (iT l x)=[]++ar TR.cells (l.take i)++[.string x.m,.bool (nR x.c.d).neg,.string (nR x.c.d).aO,.int .i64 (nR x.c.d).e]++ar TR.cells (l.drop i):=by rw [hput,bo,jo,abC,acb];rfl
  exact TI):p:=h
theorem WZ {p:Prop} (h:p:=by
  split at h
  ·rename_i f hf;have:=List.find?_some hf;simp at this;exact absurd h this
  ·rename_i hf;split at h
   ·cases h
   rename_i hno;refine ⟨fun e=>hno (.inl (by rw [e];rfl)),fun f hm=> ?_,fun f hm=> ?_⟩
   ·have:=List.find?_eq_none.1 hf f hm;simpa using this
   ·apply adN;intro hne;exact hno (.inr (adg.2 ⟨f,hm,abQ hne⟩))):p:=h
theorem XN {p:Prop} (h:p:=by
  refine dO ?_;refine iQ 4 abr abt abr abt abt ?_;refine bT ?_;intro ws hh;refine JV (bI rfl (bJ (vs:=[_,_]) az.out (hh.aE (i:=2) (n:=2) rfl rfl) rfl) (bI rfl (bJ (vs:=[_,_]) az.out (hh.aE (i:=1) (n:=2) rfl rfl) rfl) (dQ (mi rfl) cR))) ?_;exact ⟨_,_,rfl,hh.below⟩):p:=h
theorem W6 {p:Prop} (h:p:=by
  have hL:=sj hsz hml hall htail;have hρ:ρ1=gD ρ (fun i=>ρ1 (dst i)) ds:=Pd (f:=fun i=>ρ1 (dst i)) (fun p hp=>by rw [(hds p hp).2]) (fun s hs2=>hag s fun j hj _=>hs2 _ (hds2 j hj)) hnd;refine iQ m hml hL (by have:=Ht hall;omega) hrd hend ?_;have:=hfin (fun i=>ρ1 (dst i)) R w1 (fun i hi=>hS i hi (hall i hi)) hh;rwa [←hρ] at this):p:=h
theorem O7 {p:Prop} (h:p:=by
  intro ρ1 w1 hj hR;exact let ⟨g,u,e1,e2⟩:=hR.1;cY rfl (ek e1) ⟨Below.refl _ _,g,u,rfl,e2⟩):p:=h
theorem Cf {p:Prop} (h:p:=by
  refine aj ?_;exact ⟨_,rfl,fun h=>(by cases h),hh.below⟩):p:=h
theorem RM {p:Prop} (h:p:=by
  refine Kt (bI rfl (bJ (vs:=[_,_,_,_,_,_]) az.out (hh.aE (i:=0) (n:=6) rfl rfl) rfl) cR) ?_;exact ⟨rfl,hh.below⟩):p:=h
theorem WG {p:Prop} (h:p:=by
  refine aj ?_;refine bG az.out rfl ((s2.ext hh.below).vc (by assumption)) abr ?_;refine aj ?_;refine Ek ?_;refine bT ?_;intro ws hh;refine qg ?_;exact .inl ⟨.inr ⟨h0,by rw [hr1];decide,by rw [hr1];rfl⟩,hh.below⟩):p:=h
theorem QS {p:Prop} (h:p:=by
  rw [abG abq] at hall;refine aj ?_;exact ⟨_,rfl,⟨fun h=>absurd h abr,fun h=>by rw [hall] at h;cases h⟩,hh.below⟩):p:=h
theorem Vb {p:Prop} (h:p:=by
  have h3:=hdep (i-m) abq;rw [show m+(i-m)=i by omega] at h3;have h4:(i-m==0)=false:=by simp;omega
  rw [h4,ace] at h3;have:=iK hM hI.cl i m hed' h3;rw [hI.tl m (abD _)] at this
  cases this):p:=h
theorem VE {p:Prop} (h:p:=by
  refine ⟨hI.nd,hI.sz,fun s=> ?_⟩;by_cases hs:∃i,(i,s)∈ds
  ·obtain ⟨i,hi⟩:=hs;rw [(l0 _ ds s hnd).1 i hi,(hdsm i s hi).2]
  ·rw [(l0 _ ds s hnd).2 fun i hi=>hs ⟨i,hi⟩];exact hI.tQ s fun i hi _ hd=>hs ⟨i,hpre i s hi hd⟩):p:=h
theorem Ya {p:Prop} (h:p:=by
  simp only [bK];rw [←htake];have h5:o+vs.length≤m*sz:=abq;have h6:m*sz≤cur.toList.length:=by rw [←hcl,hcur];exact hle
  rw [List.take_take,acQ abq,List.drop_take,acb,acb,List.take_append,List.take_append];simp only [abP,acQ (show o≤cur.toList.length by omega)];rw [abG (l:=cur.toList.take o) (by simp;omega),abG (l:=vs) abq];congr 2;congr 1;omega):p:=h
theorem W5 {p:Prop} (h:p:=by
  by_cases hif:i∈fr
  ·obtain ⟨d,t,ty,pos,af,n,ag,by',zc,hi1,ht⟩:=hfr.at i hif;have ho2:o=⟨some d,.alloc t,ty,pos,af,none⟩:=by
    have h7:=ho;rw [adG,hi1] at h7;injection h7 with h7
    exact h7.symm
   have hds:d<a.tmps.size:=by
    rw [hI.sz];exact hdN (i,d) (hpre i d him (by rw [ho,ho2];rfl))
   subst ho2;exact P6 ht hog a hds _ _ (fun _=>rfl) fun v w' hk hb=>hnext v w' hk fun _=>hb
  ·exact hog.out a _ _ (fun _=>rfl) fun v w2 hv=>hnext v w2 hv fun h=>absurd h hif):p:=h
theorem So {p:Prop} (h:p:=by
  rw [hds,adp,ac0];refine ⟨(some d,i), ?_,rfl⟩;rw [List.mem_zipIdx_iff_getElem?];rw [abI,acy hi];simp only [adr,hd]):p:=h
theorem K0 {p:Prop} (h:p:=by
  intro ρ1 w1 hj hR;exact let ⟨g,u,e1,e2⟩:=hR.1;cY rfl (dT (vs:=[_,_,_]) e1 rfl) ⟨Below.refl _ _,rfl⟩):p:=h
theorem Yp {p:Prop} (h:p:=by
  refine dO ?_;refine iQ 7 abr abt abr abt abt ?_;refine bT ?_;intro ws hh;refine ⟨⟨_,_,rfl,rfl,hh.sub (.cons_cons _ (.cons_cons _ (.cons_cons _ (acA _))))⟩, ?_⟩;repeat refine cV rfl ?_
  exact fun _ _=>rfl):p:=h
theorem Xi {p:Prop} (h:p:=by
  refine ⟨hJ.bl,fun x hx=> ?_, ?_⟩
  ·rcases abO.1 hx with rfl|hx
   ·exact o1
   ·obtain rfl:=abX.1 hx;exact o2
  ·rw [adL];split
   ·exact UL
   ·rename_i b1 hb1;refine adI.2 ⟨fun hm=> ?_, ?_⟩
    ·obtain ⟨y,hy,hyb⟩:=ac0.1 hm;obtain rfl:=abX.1 hy;exact Sj o1 o2 h12 b1 hb1 hyb
    ·exact UL):p:=h
theorem Xb {p:Prop} (h:p:=by
  have hdm:j/sz*sz+j % sz=j:=by rw [abU];exact acO j sz
  have hmod:j % sz<sz:=ab4 _ h0;have hj:j/sz<l.length:=by
   have:=(abM.1 hu).1;rw [eH hf] at this;exact Nat.div_lt_of_lt_mul (by rw [abU];exact this)
  obtain ⟨x,hx⟩:=ai hj;have h6:=xF hf hx;have h7:(f x)[j % sz]?=some u:=by
   rw [←h6,ado,abx hmod,adt,hdm];exact hu
  have h8:=(World.cells?_some (hp _ _ hx).1).2.2 (j % sz) hmod;rw [h7,sl,hdm] at h8;exact h8):p:=h
theorem WV {p:Prop} (h:p:=by
  have hJ0:J ({ w with drawn:=w.drawn+1 }:World):=hJ w _ h0 ⟨rfl,rfl,rfl,abD _,fun _ _=>rfl⟩;have hr0:∀i,(Array.replicate l.toArray.size false).getD i false=false:=fun i=>by
   exact NX
  refine key _ _ _ _ ⟨hf.nd,hf.sz,hJ0,by simp,fun k o _ hk=> ?_,fun k _=>hr0 k,fun i d _ hi=> ?_,fun s _=>hf.at_ s,fun i _ hi=> ?_,fun i _ j _ _ hi=> ?_⟩ ?_
  ·rw [hr0] at hk;cases hk
  ·rw [hr0] at hi;cases hi
  ·rw [hr0] at hi;cases hi
  ·rw [hr0] at hi;cases hi
  ·simp [ae8]):p:=h
theorem yT {p:Prop} (h:p:=by
  refine aj ?_;exact ⟨_,_,rfl,hh.at_ (i:=0) rfl,hh.below⟩):p:=h
theorem Ow {p:Prop} (h:p:=by
  refine bT ?_;intro ws hh;refine Kt (bI rfl (bJ (vs:=[_,_,_]) az.out (hh.aE (i:=1) (n:=3) rfl rfl) rfl) cR) ?_;exact ⟨rfl,hh.below⟩):p:=h
theorem WX {p:Prop} (h:p:=by
  refine PQ ?_;refine xQ ?_;intro b3 w3 hh b5 w5 hh b6 w6 hh b7 w7 hh;refine hU ?_;intro w12 hh;refine bX ?_;intro ws hh ws hh;refine TD ?_;exact ⟨hh.below,.inl ⟨by rw [hE];decide,by rw [hE];rfl⟩⟩):p:=h
theorem YS {p:Prop} (h:p:=by
  have hn0:=P4 (x:=x.d) (m:=q+1) (i:=n) abq;obtain ⟨gq,rfl⟩:=hh.bP (i:=3) rfl abq;refine aj ?_;refine bG az.out rfl (hE.ld (hh.sub (.cons _ (.cons _ (aco _))))) abr ?_;refine aj ?_;refine bF (vs:=[_,_,_]) az.out rfl (hh.df (f:=NR.cells) (x:=nR (x.d^n)) (l:=zd x.d (q+1)) (i:=3) rfl NR.len abr hn0) rfl abr ?_;refine bT ?_;intro ws hh;refine Aa ?_;exact ⟨rfl,_,_,_,hm1,hh.sub (.cons _ (.cons _ (aco _)))⟩):p:=h
theorem RQ {p:Prop} (h:p:=by
  have p1:=hpre i d hi h1;have p2:=hpre j d hj h2;have e1:=((l0 (ρ:=ρ) (fun i=>.int .i64 i) ds d hnd).1 i p1).symm.trans ((l0 (ρ:=ρ) (fun i=>.int .i64 i) ds d hnd).1 j p2);injection e1 with _ e1
  omega):p:=h
theorem Rt {p:Prop} (h:p:=by
  refine bT ?_;intro ws hh;refine zv ?_;exact ⟨PX.nil,iy.err h0,rfl,(hh.sub (acA _)).Oy⟩):p:=h
theorem VA {p:Prop} (h:p:=by
  refine Nh ?_;refine bT ?_;intro b3 w3 hh;refine hU ?_;intro w12 hh;refine aj ?_;refine aZ hh (hbk _ (hT.hp hh) hh.below) rfl ?_;intro w17 hh;refine aj ?_;exact ⟨rfl,hh.below⟩):p:=h
theorem U8 {p:Prop} (h:p:=by
  exact ⟨g,og,rfl,hh.sub (aby _ (acA _))⟩):p:=h
theorem Yd {p:Prop} (h:p:=by
  unfold ByteArray.toList;have:∀(n i:Nat) (r:List UInt8),s.size-i=n→ByteArray.toList.loop s i r=r.reverse++s.data.toList.drop i:=by
   intro n
   induction n with
   |zero=>
    intro i r h;rw [ByteArray.toList.loop,abw abq,adH (by rw [Array.length_toList];show s.size≤i;omega)];simp
   |succ n ih=>
    intro i r h;have hi:i<s.size:=abq;rw [ByteArray.toList.loop,abx hi,ih (i+1) _ abq];have hi2:i<s.data.toList.length:=by rw [Array.length_toList];exact hi
    rw [ady hi2];have:s.get! i=s.data.toList[i]:=by
     show s.data[i]! =_;rw [getElem!_pos s.data i (by simpa using hi2)];simp
    simp [this]
  simpa using this (s.size-0) 0 [] rfl):p:=h
theorem La {p:Prop} (h:p:=by
  refine bT ?_;intro ws hh;exact Tw):p:=h
theorem Vt {p:Prop} (h:p:=by
  have h16:¬2^24<len*sz:=abq;have hf':=Bg _ _ _ hf;rw [←vL,hzl] at hf';have hzs:zc.toArray.size=sz:=by simpa using hzl
  have hp':=HA parts hp;simp only [execOp,hp',Instr.buildSlice,Sem.run_bind,run_underlying ht,Result.andThen_ok,fw hte,gt_iff_lt,abw h16,abw h0,hz,hzc,Sem.run_pure,hzs,hf'];simp [newRow]):p:=h
theorem Sd {p:Prop} (h:p:=by
  refine g7 (hc _ hh.below) ak.out rfl rfl abr ?_;rintro e_ w16 ⟨rfl,hb_⟩;refine ⟨_,rfl, ?_⟩;replace hh:=hh.ext hb_;refine aj ?_;exact ⟨_,rfl,⟨fun _=>adg.2 ⟨z,abz hz,gz⟩,fun _=>by omega⟩,hh.below⟩):p:=h
theorem U6 {p:Prop} (h:p:=by
  simp only [JO]
  rcases acj i l.length with hi|hi
  ·rw [acC,Array.getElem?_append_left (by simpa using hi)];simp [adm]
  ·rw [acC,Array.getElem?_append_right (by simpa using hi)];simp only [adm,abT hi,Option.getD_none,Array.getElem?_replicate];split<;>rfl):p:=h
theorem QB {p:Prop} (h:p:=by
  rintro e_ w7 ⟨v_,rfl,hv_,hb_⟩;refine ⟨_,rfl, ?_⟩;replace hh:=hh.ext hb_
  cases ga:l.any p with
  |true=>
   have h0:=hv_.2 ga;refine aj ?_;exact ⟨rfl,hh.below⟩
  |false=>
   have h0:¬0≤v_:=fun h=>by rw [hv_.1 h] at ga;cases ga
   refine aj ?_;exact ⟨rfl,hh.below⟩):p:=h
theorem Qt {p:Prop} (h:p:=by
  refine bT ?_;intro ws hh;refine GD (bI rfl (bJ (vs:=[_,_,_]) az.out (hh.aE (i:=0) (n:=3) rfl rfl) rfl) (dQ (eL rfl) cR)) ?_;exact ⟨rfl,hh.below⟩):p:=h
theorem Xn {p:Prop} (h:p:=by
  refine dO ?_;refine iQ 3 abr abt abr abt abt ?_;refine gE hh 3 [_,_] ?_;intro ws hh;replace hh:Hp _ (_::_::_::.blk _ _ [_,_] _::_) _:=hh;refine aB (aJ (yp ?_));refine JV (bI rfl (bJ (vs:=[_,_]) az.out (hh.aE (i:=4) (n:=2) rfl rfl) rfl) (bI rfl (bJ (vs:=[_,_]) az.out (hh.aE (i:=3) (n:=2) rfl rfl) rfl) (dQ (mi rfl) cR))) ?_;exact ⟨rfl,hh.below⟩):p:=h
theorem VB {p:Prop} (h:p:=by
  intro L a w hI hc;have hall:∀i,i<l.length→L.getD i false=true:=fun i hi=>by
   exact UD
  have hmn:l.length≤0+m:=by
   rcases acj m l.length with h|h
   ·have h1:=hall m h;rw [hI.tl m (abD _)] at h1
    cases h1
   ·omega
  exact full L a w 0 hI (fun i hi=>hall i abq) hmn):p:=h
theorem Pk {p:Prop} (h:p:=by
  refine bT ?_;intro ws hh;refine Jw ?_;exact ⟨g,og,rfl,hh.sub (aby _ (acA _))⟩):p:=h
theorem Xv {p:Prop} (h:p:=by
  refine dO ?_;refine iQ 7 abr abt abr abt abt ?_;refine bT ?_;intro ws hh;refine JV (bI rfl (bJ (vs:=[_,_]) az.out (hh.aE (i:=7) (n:=2) rfl rfl) rfl) (bI rfl (bJ (vs:=[_,_]) az.out (hh.aE (i:=6) (n:=2) rfl rfl) rfl) (dQ (eL rfl) cR))) ?_;exact .inr ⟨h0,x,y,hx,hy,rfl,hh.sub ((List.sublist_append_left [y.jW,y.jY,x.jW,x.jY] _).cons _)⟩):p:=h
theorem uR {p:Prop} (h:p:=by
  refine bT ?_;intro ws hh;exact UB):p:=h
theorem RU {p:Prop} (h:p:=by
  rw [hds,adp,ac0] at hp;obtain ⟨⟨x,k⟩,hx,hxe⟩:=hp;rw [List.mem_zipIdx_iff_getElem?] at hx
  cases x with
  |none=>simp at hxe
  |some d'=>
   simp only [adr,adv,Prod.mk.injEq] at hxe;obtain ⟨rfl,rfl⟩:=hxe;rw [abI] at hx
   cases hr:(List.range m)[k]? with
   |none=>rw [hr] at hx;simp at hx
   |some y=>
    have hkm:k<m:=by
     have:=(abM.1 hr).1;simpa using this
    rw [acy hkm] at hx;simp only [adr,adv] at hx;exact ⟨hkm,hx⟩):p:=h
theorem DE {p:Prop} (h:p:=by
  refine uN (c:=cc) bq.out rfl rfl abq hcc abr ?_;skip;refine wZ bq.out bq.out rfl abq abq abr ?_;refine nC (aI (aJ (yp ?_)));refine Z1 ?_;refine ⟨?_,Below.refl _ _⟩;congr 2;rw [hcv];omega):p:=h
theorem YC {p:Prop} (h:p:=by
  unfold Region.ready;rw [acX,ab3,hnn];constructor
  ·rintro ⟨h1,h2⟩;have ho:l.toArray[i]?=some l[i]:=by simp [h1]
   rw [ho] at h2;simp only [adr,acW,abS,aep] at h2;refine ⟨h1,h2.1,l[i],ho,fun e he hb=> ?_⟩;have:=aeO.1 h2.2 e he;simpa [hb] using this
  ·rintro ⟨h1,h2,o,ho,h3⟩;refine ⟨h1, ?_⟩;rw [ho];exact Tq):p:=h
theorem ZU {p:Prop} (h:p:=by
  refine Ut ?_;refine da 1 [_,_] ?_;refine dC (fun _ hj=>hfm _) ?_;refine da 0 [_,_] ?_;refine av ?_;intro p_ hp_;simp only [abO,acS,or_false] at hp_
  rcases hp_ with rfl|rfl
  ·intro f W hJ hV;have hb_10:=hJ.bl;obtain ⟨v49,v48,_⟩:=hV;simp only [gD];have e48:f 0=_:=v48;rw [e48];have e49:f 1=_:=v49;rw [e49];replace hh:=hJ.hp;clear e48 e49 hJ;refine gE hh 1 [_,_] ?_;intro ws hh;replace hh:Hp _ (_::.blk _ _ [_,_] _::_) _:=hh;refine dO ?_;refine eO (i:=2) abt rfl ?_;refine m9 hh 0 [_,_] ?_;exact T3
  ·intro f W hJ hV;have hb_10:=hJ.bl;obtain ⟨v50,v49,v48,_⟩:=hV;simp only [gD];have e48:f 0=_:=v48;rw [e48];have e49:f 1=_:=v49;rw [e49];have e50:f 2=_:=v50;rw [e50];replace hh:=hJ.hp;clear e48 e49 e50 hJ;refine gE hh 1 [_,_] ?_;intro ws hh;replace hh:Hp _ (_::.blk _ _ [_,_] _::_) _:=hh;exact T3):p:=h
theorem zW7 {p:Prop} (h:p:=by
  refine ml ?_;refine dS (dS (dS (dU (dU (dU (dU ?_))))));refine CZ (i:=28) rfl (fun ρ1 w1 hj hR=>(show ρ1 44=undef from hR.2.2.1)) ?_;refine dU (dU (dU (dU ?_)));refine av ?_;intro f W hJ hV _;have hb_8:=hJ.bl;obtain ⟨v53,v52,v51,v50,v49,v48,v47,v46,v45,v44,v43,v42,v41,v40,v39,v38,v37,v36,v35,v34,v33,v32,v31,v30,v29,v28,v27,v26,v25,v24,v23,v22,v21,_⟩:=hV;replace hh:=hJ.hp;refine HH ?_;exact O6):p:=h
theorem YW {p:Prop} (h:p:=by
  refine aj ?_;rw [hs];refine bX ?_;intro b6 w6 hh ws hh;refine aC 9 [[(6,none)],[(30,some 0)],[(2,none)],[(31,some 1),(32,some 2)],[(6,none)],[(34,some 4)],[(3,none)],[(35,some 5),(36,some 6)],[(6,none)]] [(8,38),(7,37),(6,36),(5,35),(4,34),(3,33),(2,32),(1,31),(0,30)] hh mixed abt ?_;refine dw ?_;refine fF 0 ?_;refine da 3 [_,_,_] ?_;refine dC (fun _ hj=>hcx _ (hT.hp hj.hp)) ?_;refine dw ?_;refine fF 0 ?_;refine da 2 [_,_,_] ?_;refine dC (fun _ hj=>hcy _ (hT.hp hj.hp)) ?_;refine dw ?_;refine av ?_;intro f W hJ hV;have hb_8:=hJ.bl;obtain ⟨v38,v37,v36,v35,v34,v33,v32,v31,v30,_⟩:=hV;replace hh:=hJ.hp;refine ay (aQ (aa v38 (aa v37 (aa v36 (aa v35 (aa v34 (aa v33 (aa v32 (aa v31 (aa v30 aw)))))))))) ?_;dsimp only [bA];clear hJ;refine lK ?_;intro ws hh ws hh ws hh;refine Kt (bI rfl (bJ (vs:=[_,_,_,_,_]) az.out (hh.aE (i:=1) (n:=5) rfl rfl) rfl) cR) ?_;exact ⟨rfl,hh.below⟩):p:=h
theorem Qp {p:Prop} (h:p:=by
  refine zv ?_;exact N0):p:=h
theorem Zd {p:Prop} (h:p:=by
  exfalso;have hmin:∀k,(∃i,i<k∧i<m∧L.getD i false=false)→∃i,i<m∧L.getD i false=false∧∀j,j<i→L.getD j false=true:=by
   intro k
   induction k with
   |zero=>rintro ⟨i,h,_⟩;omega
   |succ k ihk=>
    rintro ⟨i,h1,h2,h3⟩;by_cases hex:∃i,i<k∧i<m∧L.getD i false=false
    ·exact ihk hex
    ·exact UG
  obtain ⟨i0,h1,h2⟩:=hsome;obtain ⟨i,hi,hu,hlow⟩:=hmin (i0+1) ⟨i0,abq,h1,h2⟩;exact Tb):p:=h
theorem ZQ {p:Prop} (h:p:=by
  intro w40 hh;rw [ee];refine nP (aJ (cF (dA (eF (bO ?_)))));refine pw hh mixed fun w_ hj_=> ?_;replace hh:=hj_.hp;clear hj_;refine vU (i:=0) (i2:=1) abt rfl rfl ?_ ?_
  ·refine m9 hh 1 [_,_] ?_;refine dO ?_;refine vU (i:=1) (i2:=2) abt rfl rfl ?_ ?_
   ·refine m9 hh 0 [_,_] ?_;exact SX
   ·refine gE hh 3 [_,_] ?_;intro ws hh;replace hh:Hp _ (_::_::_::.blk _ _ [_,_] _::_) _:=hh;refine dO ?_;refine eO (i:=1) abt rfl ?_;refine m9 hh 0 [_,_] ?_;exact TH
  ·refine m9 hh 0 [_,_] ?_;refine dO ?_;refine eO (i:=0) abt rfl ?_;refine m9 hh 1 [_,_] ?_;exact SX):p:=h
theorem AO {p:Prop} (h:p:=by
  refine bT ?_;intro ws hh;refine Aa ?_;exact ⟨rfl,hh.below⟩):p:=h
theorem dI {p:Prop} (h:p:=by
  exact abu):p:=h
section
variable {H:Type}{enc:TypeId×Value→H}{P:Program}
theorem qq (hl:laidOutB P=true) {W W':World} (hb:Below W.heap.size W W') (sp:Nat→Bool):∀(ts:List TypeId) (vs:List Value) (ds:List (DataW H)) (ps:List MemPlace),(∀t∈ts,P.readableRec t=true∧t<P.types.size)→
  (∀x∈ps,x.block<W.heap.size)→(∀x∈ps,sp x.block=true)→DataW.TrodAll enc P W 0 (fun _=>true) true ts vs ds ps→DataW.TrodAll enc P W' 0 sp true ts vs ds ps
 |[],vs,ds,ps,_,_,_,h=>by
  obtain ⟨rfl,rfl,rfl⟩:=trodAll_nil h;exact trodAll_mk0
 |t::ts,vs,ds,ps,hr,hlt,hsp,h=>by
  obtain ⟨v,vs',d,ds',p,q,rfl,rfl,rfl,h0,r0⟩:=trodAll_cons h;refine trodAll_cons_mk (WideElems.Trod_stays hl (hr t abF).1 (hr t abF).2 h0 (fun x hx=>hb.same (hlt x (adf _ hx))) (fun x hx=>hsp x (adf _ hx)))
   (qq hl hb sp ts vs' ds' q (fun t ht=>hr t (abN _ ht)) (fun x hx=>hlt x (acI _ hx)) (fun x hx=>hsp x (acI _ hx)) r0)
theorem OJ {f:Func}{s:ChangeSpec}{W W':World}{args:Array Value}{ds:List (DataW H)}{before:List MemPlace}{tb:TypeId}
  (hW:DataW.Whole enc P f.params.toList s.vars false W args.toList ds [] before) (hv:s.vars=[]) (hl:laidOutB P=true) (hr:∀t∈f.params.toList,P.readableRec t=true∧t<P.types.size)
  (hres:f.resultTypes= #[tb]) (hbool:P.underlying tb=some .bool) (hs1:(s.fn H (ds++[])).results=[.lit (.bool true)]) (hs2:(s.fn H (ds++[])).args=ds) (hs3:(s.fn H (ds++[])).vars=[]) (hb:Below W.heap.size W W'):
  s.post enc P f false true false false W args (.bool true) W':=by
 have hlt:∀p∈before,p.block<W.heap.size:=fun p hp=>by simpa using hW.lt p hp
 have hold:∀p∈before,(fun b=>decide (b<W.heap.size)) p.block=true:=fun p hp=>by simpa using hlt p hp
 have hW0:=hW;obtain ⟨pa,pv,hA,hV,hps,hz,hn⟩:=hW0;rw [hv] at hV;obtain ⟨_,rfl⟩:=trodVars_none hV;have hbp:before=pa:=by rw [hps,acg]
 subst hbp;have hA':∀sp:Nat→Bool,(∀p∈before,sp p.block=true)→DataW.TrodAll enc P W' 0 sp true f.params.toList args.toList (s.fn H (ds++[])).args before:=fun sp hsp=>by
  rw [hs2];exact qq hl hb sp _ _ _ _ hr hlt hsp hA
 have hV':∀sp:Nat→Bool,DataW.TrodVars enc P W' sp s.vars (s.fn H (ds++[])).vars []:=fun sp=>by
  rw [hv,hs3];rfl
 have hR:∀(b:Nat) (sp:Nat→Bool) (hd:Bool),DataW.TrodAll enc P W' b sp hd f.resultTypes.toList ((Value.bool true).resultList f.resultTypes.size) (s.fn H (ds++[])).results []:=fun b sp hd=>by
  rw [hres,hs1];exact trodAll_cons_mk (shut_bool hbool _) trodAll_mk0
 refine ⟨ds,[],before,[],before,[],hW,hR _ _ _,hA' _ hold,hV' _,World.keptBut_mono (fun p hp=>⟨hp, ?_⟩) (hb.frame (· ∈before)),fun _=> ?_⟩
 ·exact .inr (.inl hp)
 ·refine ⟨ok_one hres rfl (okWide_bool_mk hbool _),_,_,([]++before)++[],⟨[]++before,[],trodAll_append (hA' _ (fun _ _=>rfl)) (hR _ _ _),hV' _,rfl, ?_, ?_⟩, ?_⟩
  ·intro b off hp;have hp2:=hz b off (by simpa using hp);rw [hb.frozen (hlt _ (by simpa using hp))];exact hp2
  ·intro ha
   cases ha
  ·intro p hp _;simpa using hp
end
open Go.RowKit
abbrev Rf:=Nat→Value
def cg (ρ:Rf) (d:Nat) (v:Value):Rf:=fun i=>bif Nat.beq i d then v else ρ i
def ev (ρ:Rf):Operand→Value
 |.tmp t=>ρ t
 |.const v=>v
 |.global g=>.pointer (some ⟨g,0,none⟩)
 |.func f=>.func (.func f) #[] #[]
structure eY (N:Nat) (D:List Deferred) (a:Act) (ρ:Rf):Prop where
 nd:a.defers=D
 sz:a.tmps.size=N
 at_:∀i,a.tmps.getD i undef=ρ i
abbrev Fits (N:Nat) (a:Act) (ρ:Rf):Prop:=eY N [] a ρ
theorem eY.eval {N:Nat}{D:List Deferred}{a:Act}{ρ:Rf} (h:eY N D a ρ):a.eval=ev ρ:=by
 funext x
 cases x with
 |tmp t=>exact h.at_ t
 |_=>rfl
theorem sv (ρ:Rf) (d:Nat) (v:Value):cg ρ d v d=v:=by simp [cg]
theorem gR (ρ:Rf) {d i:Nat} (h:i≠d) (v:Value):cg ρ d v i=ρ i:=by
 have hb:Nat.beq i d=false:=by
  cases hb:Nat.beq i d
  ·rfl
  ·exact absurd (Nat.eq_of_beq_eq_true hb) h
 simp only [cg,hb,cond_false]
theorem eY.put {N:Nat}{D:List Deferred}{a:Act}{ρ:Rf} (h:eY N D a ρ) {d:Nat} (hd:d<N) (v:Value):eY N D (a.put (some d) v) (cg ρ d v):=by
 refine ⟨h.nd,by simp [Act.put,h.sz],fun i=> ?_⟩;by_cases hi:i=d
 ·subst hi;rw [sv];simp [Act.put,h.sz,hd]
 ·rw [gR ρ hi,←h.at_ i];have:d≠i:=fun e=>hi e.symm;simp [Act.put,Array.getElem?_setIfInBounds_ne this]
abbrev Kq:=Exit→Rf→World→Prop
def eV (N:Nat) (D:List Deferred) (Q:Kq):Exit→Act→World→Prop:=fun e a w=>∃ρ,eY N D a ρ∧Q e ρ w
abbrev lift (N:Nat) (Q:Kq):Exit→Act→World→Prop:=eV N [] Q
structure Mode where
 round:Option Nat:=none
 D:List Deferred:=[]
 any:Bool:=false
abbrev Mode.plain:Mode:={}
def FW (ro:Option Nat):Fence:={ Fence.wide with round:=ro }
structure WC (ro:Mode) (P:Program) (N:Nat) (c:Code) (Q:Kq) (ρ:Rf) (w:World):Prop where
 nE:ro.any=false→∀a,eY N ro.D a ρ→c.wp P (eV N ro.D Q) a w
 lh:∀a,eY N ro.D a ρ→∀n,c.wpIn (FW ro.round) n P (eV N ro.D Q) a w
structure WL (ro:Mode) (P:Program) (N:Nat) (ops:Array Oper) (Q:Kq) (l:List Oper) (ρ:Rf) (w:World):Prop where
 nE:ro.any=false→∀a,eY N ro.D a ρ→wpList P ops (eV N ro.D Q) l a w
 lh:∀a,eY N ro.D a ρ→∀n,wpListIn (FW ro.round) n P ops (eV N ro.D Q) l a w
def dV (next:Rf→World→Prop) (Q:Kq):Kq
 |.normal,ρ,w=>next ρ w
 |e,ρ,w=>Q e ρ w
def qV (id:Nat) (Q:Kq):Kq
 |.exit id',ρ,w=>if id'=id then Q .normal ρ w else Q (.exit id') ρ w
 |e,ρ,w=>Q e ρ w
section code
variable {ro:Mode}{P:Program}{N:Nat}{Q:Kq}{ρ:Rf}{w:World}
theorem WC.oV {D:List Deferred}{c:Code} (h:∀a,eY N D a ρ→c.wp P (eV N D Q) a w):WC ⟨none,D,false⟩ P N c Q ρ w:=⟨fun _=>h,fun a hf _=>wpIn_wide.2 (h a hf)⟩
theorem WC.out {D:List Deferred}{c:Code} (h:WC ⟨none,D,false⟩ P N c Q ρ w):∀a,eY N D a ρ→c.wp P (eV N D Q) a w:=h.nE rfl
theorem Ng {r:Option Nat}{D:List Deferred}{c:Code} (h:WC ⟨r,D,false⟩ P N c Q ρ w):WC ⟨r,D,true⟩ P N c Q ρ w:=⟨fun h=>(by cases h),h.lh⟩
theorem WL.out {D:List Deferred}{ops:Array Oper}{l:List Oper} (h:WL ⟨none,D,false⟩ P N ops Q l ρ w):∀a,eY N D a ρ→wpList P ops (eV N D Q) l a w:=h.nE rfl
theorem zz {D:List Deferred}{Q Q':Kq} (h:∀e ρ w,Q e ρ w→Q' e ρ w) (e:Exit) (a:Act) (w:World):eV N D Q e a w→eV N D Q' e a w:=
 fun ⟨ρ,hf,hq⟩=>⟨ρ,hf,h _ _ _ hq⟩
theorem WC.mono {c:Code}{Q':Kq} (h:WC ro P N c Q ρ w) (hq:∀e ρ w,Q e ρ w→Q' e ρ w):WC ro P N c Q' ρ w:=
 ⟨fun hm a hf=>wp_mono (h.nE hm a hf) (zz hq),fun a hf n=>wpIn_mono (h.lh a hf n) (zz hq)⟩
theorem bO {x y:Code} (h:WC ro P N x (dV (fun ρ w=>WC ro P N y Q ρ w) Q) ρ w):WC ro P N (.seq x y) Q ρ w:=
 ⟨fun hm a hf=>wp_seq (wp_mono (h.nE hm a hf) fun e a' w' ⟨ρ',hf',hq⟩=>by
  cases e with
  |normal=>exact hq.nE hm a' hf'
  |_=>exact ⟨ρ',hf',hq⟩),
 fun a hf n=>wpIn_seq (wpIn_mono (h.lh a hf n) fun e a' w' ⟨ρ',hf',hq⟩=>by
  cases e with
  |normal=>exact hq.lh a' hf' n
  |_=>exact ⟨ρ',hf',hq⟩)⟩
theorem dA (h:Q .normal ρ w):WC ro P N .skip Q ρ w:=⟨fun _ _ hf=>wp_skip ⟨ρ,hf,h⟩,fun _ hf _=>wpIn_skip ⟨ρ,hf,h⟩⟩
theorem yp (h:Q .ret ρ w):WC ro P N .ret Q ρ w:=⟨fun _ _ hf=>wp_ret ⟨ρ,hf,h⟩,fun _ hf _=>wpIn_ret ⟨ρ,hf,h⟩⟩
theorem Ce {id:Nat} (h:Q (.exit id) ρ w):WC ro P N (.exit id) Q ρ w:=⟨fun _ _ hf=>wp_exit ⟨ρ,hf,h⟩,fun _ hf _=>wpIn_exit ⟨ρ,hf,h⟩⟩
theorem Mu {l:Nat} (h:Q .normal ρ w):WC ro P N (.label l) Q ρ w:=⟨fun _ _ hf=>wp_label ⟨ρ,hf,h⟩,fun _ hf _=>wpIn_label ⟨ρ,hf,h⟩⟩
theorem lk {id:Nat}{c:Code} (h:WC ro P N c (qV id Q) ρ w):WC ro P N (.block id c) Q ρ w:=
 have key:∀(D:List Deferred) e a' w',eV N D (qV id Q) e a' w'→Exit.inBlock id (eV N D Q) e a' w':=fun D e a' w' ⟨ρ',hf',hq⟩=>by
  cases e with
  |exit id'=>
   by_cases hid:id'=id
   ·simp only [qV,hid,if_true] at hq;simp only [Exit.inBlock,hid,if_true];exact ⟨ρ',hf',hq⟩
   ·simp only [qV,hid,if_false] at hq;simp only [Exit.inBlock,hid,if_false];exact ⟨ρ',hf',hq⟩
  |_=>exact ⟨ρ',hf',hq⟩
 ⟨fun hm a hf=>wp_block (wp_mono (h.nE hm a hf) (key _)),fun a hf n=>wpIn_block (wpIn_mono (h.lh a hf n) (key _))⟩
theorem Kv {c:Operand}{x y:Code} (hc:ev ρ c=.bool true) (h:WC ro P N x Q ρ w):WC ro P N (.cond c x y) Q ρ w:=
 ⟨fun hm a hf=>wp_cond_true (by rw [hf.eval];exact hc) (h.nE hm a hf),fun a hf n=>wpIn_cond_true (by rw [hf.eval];exact hc) (h.lh a hf n)⟩
theorem K4 {c:Operand}{x y:Code} (hc:ev ρ c=.bool false) (h:WC ro P N y Q ρ w):WC ro P N (.cond c x y) Q ρ w:=
 ⟨fun hm a hf=>wp_cond_false (by rw [hf.eval];exact hc) (h.nE hm a hf),fun a hf n=>wpIn_cond_false (by rw [hf.eval];exact hc) (h.lh a hf n)⟩
theorem bR {id:Nat}{l:List Oper} (h:WL ro P N l.toArray Q l ρ w):WC ro P N (.region id l.toArray false) Q ρ w:=
 ⟨fun hm a hf=>wp_region_lit (h.nE hm a hf),fun a hf n=>wpIn_region_lit (h.lh a hf n)⟩
theorem eF {next:Rf→World→Prop} (h:next ρ w):dV next Q .normal ρ w:=h
theorem WN {next:Rf→World→Prop} (h:Q .ret ρ w):dV next Q .ret ρ w:=h
theorem vS {next:Rf→World→Prop}{id:Nat} (h:Q (.exit id) ρ w):dV next Q (.exit id) ρ w:=h
theorem Ol {id:Nat} (h:Q .normal ρ w):qV id Q .normal ρ w:=h
theorem XV {id:Nat} (h:Q .ret ρ w):qV id Q .ret ρ w:=h
theorem FN {id:Nat} (h:Q .normal ρ w):qV id Q (.exit id) ρ w:=by simpa [qV] using h
theorem VW {id id':Nat} (hne:id'≠id) (h:Q (.exit id') ρ w):qV id Q (.exit id') ρ w:=by simpa [qV,hne] using h
def mask (mods:List Nat) (ρ' ρ:Rf):Rf:=fun i=>bif mods.contains i then ρ' i else ρ i
def im (mods:List Nat) (ρ1 ρ:Rf):Prop:=∀i,mods.contains i=false→ρ1 i=ρ i
theorem fC (mods:List Nat) (ρ' ρ:Rf):im mods (mask mods ρ' ρ) ρ:=fun i hi=>by simp only [mask,hi,cond_false]
theorem cV {mods:List Nat}{ρ1 ρ:Rf}{d:Nat}{v:Value} (hd:mods.contains d=true) (h:im mods ρ1 ρ):im mods (cg ρ1 d v) ρ:=fun i hi=>by
 rw [gR ρ1 (fun e=>by rw [e,hd] at hi;cases hi)];exact h i hi
theorem eU {mods mods2:List Nat}{ρ' ρ1 ρ:Rf} (hm:(mods2.all fun i=>mods.contains i)=true) (h:im mods ρ1 ρ):im mods (mask mods2 ρ' ρ1) ρ:=fun i hi=>by
 have h2:mods2.contains i=false:=by
  cases hc:mods2.contains i with
  |false=>rfl
  |true=>
   have:=ab6.1 hm i (by simpa using hc);rw [this] at hi;cases hi
 simp only [mask,h2,cond_false];exact h i hi
theorem abu {p:Prop} (h:p:=by repeat (first|exact fC _ _ _|refine cV rfl ?_|refine eU rfl ?_)):p:=h
theorem abv {p:Prop} (h:p:=by (repeat (first|exact fC _ _ _|refine cV rfl ?_|refine eU rfl ?_));exact fun _ _=>rfl):p:=h
theorem iD {mods:List Nat}{ρ1 ρ:Rf} (h:im mods ρ1 ρ):mask mods ρ1 ρ=ρ1:=by
 funext i;simp only [mask]
 cases hc:mods.contains i with
 |true=>rfl
 |false=>simpa using (h i hc).symm
theorem fi (ρ:Rf) (d:Nat):cg ρ d (ρ d)=ρ:=by
 funext i;by_cases h:i=d
 ·subst h;rw [sv]
 ·rw [gR ρ h]
theorem rY {c:Code} (I:Rf→World→Prop) (μ:Rf→World→Nat) (h0:I ρ w)
  (round:∀ρ w,I ρ w→WC ro P N c (dV (fun ρ' w'=>I ρ' w'∧μ ρ' w'<μ ρ w) Q) ρ w):WC ro P N (.loop c) Q ρ w:=by
 refine ⟨fun hm a hf=> ?_,fun a hf n=> ?_⟩
 ·refine wp_loop (fun a w=>∃ρ,eY N ro.D a ρ∧I ρ w) (fun a w=>μ (fun i=>a.tmps.getD i undef) w) ⟨ρ,hf,h0⟩ ?_;rintro a w ⟨ρ,hf,hi⟩;refine wp_mono ((round ρ w hi).nE hm a hf) ?_;exact Ys
 ·refine wpIn_loop (fun a w=>∃ρ,eY N ro.D a ρ∧I ρ w) (fun a w=>μ (fun i=>a.tmps.getD i undef) w) ⟨ρ,hf,h0⟩ ?_;rintro a w ⟨ρ,hf,hi⟩;refine wpIn_mono ((round ρ w hi).lh a hf n) ?_;exact Ys
theorem vK {c:Code} (mods:List Nat) (I:World→Prop) (μ:World→Nat) (h0:I  w)
  (round:∀ρ' w',I  w'→WC ro P N c (dV (fun ρ2 w2=>I  w2∧μ  w2<μ  w'∧im mods ρ2 ρ) Q) (mask mods ρ' ρ) w'):WC ro P N (.loop c) Q ρ w:=
 rY (fun ρ1 w1=>I  w1∧im mods ρ1 ρ) (fun ρ1 w1=>μ  w1) ⟨h0,fun _ _=>rfl⟩ fun ρ1 w1 ⟨hi,ha⟩=>by
  have h:=round ρ1  w1 hi;rw [iD ha] at h;exact h.mono fun e ρ2 w2 hq=>by
   cases e with
   |normal=>exact ⟨⟨hq.1,hq.2.2⟩,hq.2.1⟩
   |_=>exact hq
theorem aH {c:Code} (mods:List Nat) (s0:Nat) (I:Value→World→Prop) (μ:Value→World→Nat) (h0:I (ρ s0) w)
  (round:∀ρ' v0 w',I v0 w'→WC ro P N c (dV (fun ρ2 w2=>I (ρ2 s0) w2∧μ (ρ2 s0) w2<μ v0 w'∧im mods ρ2 ρ) Q) (cg (mask mods ρ' ρ) s0 v0) w'):WC ro P N (.loop c) Q ρ w:=
 rY (fun ρ1 w1=>I (ρ1 s0) w1∧im mods ρ1 ρ) (fun ρ1 w1=>μ (ρ1 s0) w1) ⟨h0,fun _ _=>rfl⟩ fun ρ1 w1 ⟨hi,ha⟩=>by
  have h:=round ρ1 (ρ1 s0) w1 hi;rw [iD ha,fi] at h;exact h.mono fun e ρ2 w2 hq=>by
   cases e with
   |normal=>exact ⟨⟨hq.1,hq.2.2⟩,hq.2.1⟩
   |_=>exact hq
theorem bk {c:Code} (mods:List Nat) (s0 s1:Nat) (I:Value→Value→World→Prop) (μ:Value→Value→World→Nat) (h0:I (ρ s0) (ρ s1) w)
  (round:∀ρ' v0 v1 w',I v0 v1 w'→WC ro P N c (dV (fun ρ2 w2=>I (ρ2 s0) (ρ2 s1) w2∧μ (ρ2 s0) (ρ2 s1) w2<μ v0 v1 w'∧im mods ρ2 ρ) Q) (cg (cg (mask mods ρ' ρ) s0 v0) s1 v1) w'):WC ro P N (.loop c) Q ρ w:=
 rY (fun ρ1 w1=>I (ρ1 s0) (ρ1 s1) w1∧im mods ρ1 ρ) (fun ρ1 w1=>μ (ρ1 s0) (ρ1 s1) w1) ⟨h0,fun _ _=>rfl⟩ fun ρ1 w1 ⟨hi,ha⟩=>by
  have h:=round ρ1 (ρ1 s0) (ρ1 s1) w1 hi;rw [iD ha,fi,fi] at h;exact h.mono fun e ρ2 w2 hq=>by
   cases e with
   |normal=>exact ⟨⟨hq.1,hq.2.2⟩,hq.2.1⟩
   |_=>exact hq
theorem yf {c:Code} (mods:List Nat) (s0 s1 s2:Nat) (I:Value→Value→Value→World→Prop) (μ:Value→Value→Value→World→Nat) (h0:I (ρ s0) (ρ s1) (ρ s2) w)
  (round:∀ρ' v0 v1 v2 w',I v0 v1 v2 w'→WC ro P N c (dV (fun ρ2 w2=>I (ρ2 s0) (ρ2 s1) (ρ2 s2) w2∧μ (ρ2 s0) (ρ2 s1) (ρ2 s2) w2<μ v0 v1 v2 w'∧im mods ρ2 ρ) Q) (cg (cg (cg (mask mods ρ' ρ) s0 v0) s1 v1) s2 v2) w'):WC ro P N (.loop c) Q ρ w:=
 rY (fun ρ1 w1=>I (ρ1 s0) (ρ1 s1) (ρ1 s2) w1∧im mods ρ1 ρ) (fun ρ1 w1=>μ (ρ1 s0) (ρ1 s1) (ρ1 s2) w1) ⟨h0,fun _ _=>rfl⟩ fun ρ1 w1 ⟨hi,ha⟩=>by
  have h:=round ρ1 (ρ1 s0) (ρ1 s1) (ρ1 s2) w1 hi;rw [iD ha,fi,fi,fi] at h;exact h.mono fun e ρ2 w2 hq=>by
   cases e with
   |normal=>exact ⟨⟨hq.1,hq.2.2⟩,hq.2.1⟩
   |_=>exact hq
theorem M7 {c:Code} (mods:List Nat) (s0 s1 s2 s3:Nat) (I:Value→Value→Value→Value→World→Prop) (μ:Value→Value→Value→Value→World→Nat) (h0:I (ρ s0) (ρ s1) (ρ s2) (ρ s3) w)
  (round:∀ρ' v0 v1 v2 v3 w',I v0 v1 v2 v3 w'→WC ro P N c (dV (fun ρ2 w2=>I (ρ2 s0) (ρ2 s1) (ρ2 s2) (ρ2 s3) w2∧μ (ρ2 s0) (ρ2 s1) (ρ2 s2) (ρ2 s3) w2<μ v0 v1 v2 v3 w'∧im mods ρ2 ρ) Q) (cg (cg (cg (cg (mask mods ρ' ρ) s0 v0) s1 v1) s2 v2) s3 v3) w'):WC ro P N (.loop c) Q ρ w:=
 rY (fun ρ1 w1=>I (ρ1 s0) (ρ1 s1) (ρ1 s2) (ρ1 s3) w1∧im mods ρ1 ρ) (fun ρ1 w1=>μ (ρ1 s0) (ρ1 s1) (ρ1 s2) (ρ1 s3) w1) ⟨h0,fun _ _=>rfl⟩ fun ρ1 w1 ⟨hi,ha⟩=>by
  have h:=round ρ1 (ρ1 s0) (ρ1 s1) (ρ1 s2) (ρ1 s3) w1 hi;rw [iD ha,fi,fi,fi,fi] at h;exact h.mono fun e ρ2 w2 hq=>by
   cases e with
   |normal=>exact ⟨⟨hq.1,hq.2.2⟩,hq.2.1⟩
   |_=>exact hq
end code
inductive PR (P:Program) (ρ:Rf) (w:World):ResultVar→Value→Prop
 |tmp (t:Tmp) {v:Value} (h:ρ t=v):PR P ρ w (.tmp t) v
 |cell (p:Tmp) (t:TypeId) {a:Addr}{v:Value} (hp:ρ p=.pointer (some a)) (h:(loadVar t a).run P w=.ok v w):PR P ρ w (.cell p t) v
def ja (P:Program) (ρ:Rf) (w:World):List ResultVar→List Value→Prop
 |[],[]=>True
 |r::rs,v::vs=>PR P ρ w r v∧ja P ρ w rs vs
 |_,_=>False
def zn:List Value→Value
 |[v]=>v
 |vs=>.tuple vs.toArray
def oC (P:Program) (fn:Func) (R:Ending→World→Prop):Kq:=fun e ρ w=>
 (e=.normal∨e=.ret)∧∃v,(∀tmps:Array Value,(∀i,tmps.getD i undef=ρ i)→(results fn tmps).run P w=.ok v w)∧R (.returned v) w
theorem HL {P:Program}{ρ:Rf}{w:World}{f:ResultVar→Sem Value} (h1:∀t,(f (.tmp t)).run P w=.ok (ρ t) w)
  (h2:∀p t a v,ρ p=.pointer (some a)→(loadVar t a).run P w=.ok v w→(f (.cell p t)).run P w=.ok v w):∀(rs:List ResultVar) (vs:List Value),ja P ρ w rs vs→
  (rs.mapM f).run P w=.ok vs w
 |[],[],_=>by simp
 |[],_::_,h=>h.elim
 |_::_,[],h=>h.elim
 |r::rs,v::vs,h=>by
  have ih:=HL h1 h2 rs vs h.2;obtain ⟨h3,_⟩:=h;rw [List.mapM_cons]
  cases h3 with
  |tmp t hv=>rw [Sem.run_bind,h1,Result.andThen_ok,Sem.run_bind,ih,Result.andThen_ok,Sem.run_pure,hv]
  |cell p t hp hl=>rw [Sem.run_bind,h2 _ _ _ _ hp hl,Result.andThen_ok,Sem.run_bind,ih,Result.andThen_ok,Sem.run_pure]
theorem l8 {P:Program}{fn:Func}{R:Ending→World→Prop}{ρ:Rf}{w:World}{rs:List ResultVar}{vs:List Value}{e:Exit} (he:e=.normal∨e=.ret) (hr:fn.results=rs.toArray)
  (hv:ja P ρ w rs vs) (h:R (.returned (zn vs)) w):oC P fn R e ρ w:=by
 refine ⟨he,zn vs,fun tmps ht=> ?_,h⟩;unfold results;rw [hr,Sem.run_bind,List.mapM_toArray,Sem.run_map,HL (ρ:=ρ) (fun t=>by simp [ht]) (fun p t a v hp hl=>by simp [ht,hp,asAddr,hl]) rs vs hv];simp only [Result.andThen_ok]
 match vs with
 |[]=>simp [zn]
 |[v]=>simp [zn]
 |_::_::_=>simp [zn]
theorem cR {P:Program}{ρ:Rf}{w:World}:ja P ρ w [] []:=trivial
theorem dQ {P:Program}{ρ:Rf}{w:World}{t:Tmp}{v:Value}{rs:List ResultVar}{vs:List Value} (h:ρ t=v) (k:ja P ρ w rs vs):ja P ρ w (.tmp t::rs) (v::vs):=⟨.tmp t h,k⟩
theorem bI {P:Program}{ρ:Rf}{w:World}{p:Tmp}{t:TypeId}{a:Addr}{v:Value}{rs:List ResultVar}{vs:List Value} (hp:ρ p=.pointer (some a)) (h:(loadVar t a).run P w=.ok v w) (k:ja P ρ w rs vs):ja P ρ w (.cell p t::rs) (v::vs):=⟨.cell p t hp h,k⟩
theorem Zs {P:Program}{fn:Func}{R:Ending→World→Prop}{ρ:Rf}{w:World}{t:Tmp}{e:Exit}{v:Value} (he:e=.normal∨e=.ret) (hr:fn.results= #[.tmp t]) (hv:ρ t=v) (h:R (.returned v) w):oC P fn R e ρ w:=
 l8 he hr (dQ hv cR) h
theorem YV {P:Program}{fn:Func}{R:Ending→World→Prop}{ρ:Rf}{w:World}{t u:Tmp}{e:Exit}{v x:Value} (he:e=.normal∨e=.ret) (hr:fn.results= #[.tmp t,.tmp u]) (hv:ρ t=v) (hx:ρ u=x) (h:R (.returned (.tuple #[v,x])) w):oC P fn R e ρ w:=
 l8 he hr (dQ hv (dQ hx cR)) h
theorem Y5 {P:Program}{fn:Func}{R:Ending→World→Prop}{ρ:Rf}{w:World}{t u s:Tmp}{e:Exit}{v x y:Value} (he:e=.normal∨e=.ret) (hr:fn.results= #[.tmp t,.tmp u,.tmp s]) (hv:ρ t=v) (hx:ρ u=x) (hy:ρ s=y) (h:R (.returned (.tuple #[v,x,y])) w):oC P fn R e ρ w:=
 l8 he hr (dQ hv (dQ hx (dQ hy cR))) h
theorem QU {P:Program}{fn:Func}{R:Ending→World→Prop}{ρ:Rf}{w:World}{e:Exit} (he:e=.normal∨e=.ret) (hr:fn.results= #[]) (h:R (.returned (.tuple #[])) w):oC P fn R e ρ w:=
 l8 he hr cR h
theorem Xc {P:Program}{fn:Func}{R:Ending→World→Prop}{ρ:Rf}{w:World}{r:ResultVar}{e:Exit}{v:Value} (he:e=.normal∨e=.ret) (hr:fn.results= #[r]) (h1:ja P ρ w [r] [v]) (h:R (.returned v) w):oC P fn R e ρ w:=
 l8 he hr h1 h
theorem XQ {P:Program}{fn:Func}{R:Ending→World→Prop}{ρ:Rf}{w:World}{r s:ResultVar}{e:Exit}{v x:Value} (he:e=.normal∨e=.ret) (hr:fn.results= #[r,s]) (h1:ja P ρ w [r,s] [v,x]) (h:R (.returned (.tuple #[v,x])) w):oC P fn R e ρ w:=
 l8 he hr h1 h
theorem XG {P:Program}{fn:Func}{R:Ending→World→Prop}{ρ:Rf}{w:World}{r s t:ResultVar}{e:Exit}{v x y:Value} (he:e=.normal∨e=.ret) (hr:fn.results= #[r,s,t]) (h1:ja P ρ w [r,s,t] [v,x,y]) (h:R (.returned (.tuple #[v,x,y])) w):oC P fn R e ρ w:=
 l8 he hr h1 h
def JO (l:List Value):Rf:=fun i=>l.getD i undef
theorem ae {P:Program}{f:FuncId}{fn:Func}{c:Code}{N:Nat}{l:List Value}{w:World}{R:Ending→World→Prop}
  (hf:P.funcs[f]?=some fn) (hb:fn.body=some c) (hn:fn.ntmps=N) (ha:l.length≤N)
  (h:WC .plain P N c (oC P fn R) (JO l) w):Calls P f l.toArray w R:=by
 refine calls_of_wp hf hb ?_;refine wp_mono (h.out _ ⟨rfl,by simp [hn];omega,fun i=> ?_⟩) ?_
 ·exact U6
 ·rintro e a w' ⟨ρ',hf',he,v,hr,hR⟩
  rcases he with rfl|rfl<;>exact ⟨hf'.nd,v,hr _ hf'.at_,hR⟩
section
variable {ro:Mode}{P:Program}{N:Nat}{ops:Array Oper}{Q:Kq}{ρ:Rf}{w:World}{rest:List Oper}
theorem mE {f:Operand→Value}{o:Oper}{x:Next}{w':World} (ro:Option Nat) (h:(execOp f o).run P w=.ok x w') (hx:∀d,x≠.defer d):(o.semAt ro f).run P w=.ok x w':=by
 cases hop:o.op with
 |defer c=>
  exfalso;unfold execOp at h;rw [hop] at h;simp only [Sem.run_bind] at h
  cases h2:(resolve f c o.type).run P w with
  |ok v w2=>
   rw [h2] at h;simp at h;exact hx _ h.1.symm
  |halt e w2=>
   rw [h2] at h;simp [Result.andThen] at h
 |_=>rw [Oper.semAt_eq _ _ _ (by rw [hop];intro c hc;cases hc)];exact h
theorem Fa {r1:Option Nat}{n:Nat}{f:FuncId}{args:Array Value}{R:Ending→World→Prop} (h:Calls P f args w R):CallsIn (FW r1) n P f args w R:=(callsIn_wide (n:=n)).2 h
theorem Nk (h:Q .normal ρ w):WL ro P N ops Q [] ρ w:=⟨fun _ _ hf=>wpList_nil ⟨ρ,hf,h⟩,fun _ hf _=>wpListIn_nil ⟨ρ,hf,h⟩⟩
theorem aJ {next:Rf→World→Prop}{Q':Kq} (h:next ρ w):WL ro P N ops (dV next Q') [] ρ w:=Nk h
theorem aM {o:Oper}{d:Nat}{v:Value}{w':World} (hg:o.guard=none) (hd:o.dst=some d) (hN:d<N)
  (hr:(execOp (ev ρ) o).run P w=.ok (.value v) w') (k:WL ro P N ops Q rest (cg ρ d v) w'):WL ro P N ops Q (o::rest) ρ w:=
 ⟨fun hm a hf=>wpList_plain hg fun K hK=>by
  unfold Oper.wp;rw [hf.eval,hr];show K (a.put o.dst v) w';rw [hd];exact hK _ _ (k.nE hm _ (hf.put hN v)),
 fun a hf n=>wpListIn_plain hg fun K hK=>by
  refine ⟨fun _ _=>trivial, ?_⟩;rw [hf.eval,mE _ hr (fun _ h=>by cases h)];show K (a.put o.dst v) w';rw [hd];exact hK _ _ (k.lh _ (hf.put hN v) n)⟩
theorem HI {o:Oper}{w':World} (hg:o.guard=none) (hd:o.dst=none)
  (hr:(execOp (ev ρ) o).run P w=.ok .skip w') (k:WL ro P N ops Q rest ρ w'):WL ro P N ops Q (o::rest) ρ w:=
 ⟨fun hm a hf=>wpList_plain hg fun K hK=>by
  unfold Oper.wp;rw [hf.eval,hr];show K (a.put o.dst undef) w';rw [hd];exact hK _ _ (k.nE hm _ hf),
 fun a hf n=>wpListIn_plain hg fun K hK=>by
  refine ⟨fun _ _=>trivial, ?_⟩;rw [hf.eval,mE _ hr (fun _ h=>by cases h)];show K (a.put o.dst undef) w';rw [hd];exact hK _ _ (k.lh _ hf n)⟩
theorem C6 {o:Oper}{d:Nat}{f:FuncId}{args:Array Value}{w1:World}{R:Ending→World→Prop} (hg:o.guard=none) (hd:o.dst=some d) (hN:d<N)
  (hr:(execOp (ev ρ) o).run P w=.ok (.enter f args) w1) (hc:Calls P f args w1 R)
  (k:∀e w',R e w'→∃v,e=.returned v∧WL ro P N ops Q rest (cg ρ d v) w'):WL ro P N ops Q (o::rest) ρ w:=
 ⟨fun hm a hf=>wpList_plain hg fun K hK=>by
  unfold Oper.wp;rw [hf.eval,hr];show Calls P f args w1 _;refine hc.mono fun e w' hR=> ?_;obtain ⟨v,rfl,hk⟩:=k e w' hR;show K (a.put o.dst v) w';rw [hd];exact hK _ _ (hk.nE hm _ (hf.put hN v)),
 fun a hf n=>wpListIn_plain hg fun K hK=>by
  refine ⟨fun _ _=>trivial, ?_⟩;rw [hf.eval,mE _ hr (fun _ h=>by cases h)];refine ⟨fun h=>(by cases h), ?_⟩;refine Fa (hc.mono fun e w' hR=> ?_);obtain ⟨v,rfl,hk⟩:=k e w' hR;show K (a.put o.dst v) w';rw [hd];exact hK _ _ (hk.lh _ (hf.put hN v) n)⟩
theorem mg {d:Option Nat}{op:Op}{ty:TypeId}{pos:String}{af:Array Edge}{j dj:Nat}{b:Bool}
  (hj:(ops[j]?).bind (·.dst)=some dj) (hv:ρ dj=.bool b) (k:WL ro P N ops Q (⟨d,op,ty,pos,af,none⟩::rest) ρ w):
  WL ro P N ops Q (⟨d,op,ty,pos,af,some (j,b)⟩::rest) ρ w:=
 have h0:∀D a,eY N D a ρ→Region.wanted ⟨d,op,ty,pos,af,some (j,b)⟩ (yielded ops a.tmps)=true:=fun D a hf=>by
  have h2:=hf.at_ dj;rw [hv,acC] at h2
  cases h3:a.tmps[dj]? with
  |none=>rw [h3] at h2;cases h2
  |some x=>
   rw [h3] at h2;simp only [acW] at h2;subst h2;simp [Region.wanted,yielded,hj,h3]
 ⟨fun hm a hf=>by
  have h2:=k.nE hm a hf;unfold wpList at h2 ⊢;rw [abx (h0 _ a hf)];rw [abx (by simp [Region.wanted])] at h2;exact h2,
 fun a hf n=>by
  have h2:=k.lh a hf n;unfold wpListIn at h2 ⊢;rw [abx (h0 _ a hf)];rw [abx (by simp [Region.wanted])] at h2;exact h2⟩
theorem qk {d:Nat}{op:Op}{ty:TypeId}{pos:String}{af:Array Edge}{j dj:Nat}{b c:Bool} (hN:d<N)
  (hj:(ops[j]?).bind (·.dst)=some dj) (hv:ρ dj=.bool c) (hb:c≠b) (k:WL ro P N ops Q rest (cg ρ d undef) w):
  WL ro P N ops Q (⟨some d,op,ty,pos,af,some (j,b)⟩::rest) ρ w:=
 have h0:∀D a,eY N D a ρ→Region.wanted ⟨some d,op,ty,pos,af,some (j,b)⟩ (yielded ops a.tmps)=false:=fun D a hf=>by
  have h2:=hf.at_ dj;rw [hv,acC] at h2
  cases h3:a.tmps[dj]? with
  |none=>rw [h3] at h2;cases h2
  |some x=>
   rw [h3] at h2;simp only [acW] at h2;subst h2;simp [Region.wanted,yielded,hj,h3,hb]
 ⟨fun hm a hf=>by
  unfold wpList;rw [h0 _ a hf];exact k.nE hm _ (hf.put hN undef),
 fun a hf n=>by
  unfold wpListIn;rw [h0 _ a hf];exact ⟨fun _ _=>trivial,k.lh _ (hf.put hN undef) n⟩⟩
def nb (v:Value) (b:Bool):Bool:=match v with|.bool c=>c !=b|_=>true
theorem xk {d:Nat}{op:Op}{ty:TypeId}{pos:String}{af:Array Edge}{j dj:Nat}{b:Bool} (hN:d<N)
  (hj:(ops[j]?).bind (·.dst)=some dj) (hb:nb (ρ dj) b=true) (k:WL ro P N ops Q rest (cg ρ d undef) w):
  WL ro P N ops Q (⟨some d,op,ty,pos,af,some (j,b)⟩::rest) ρ w:=by
 cases hv:ρ dj with
 |bool c=>
  rw [hv] at hb;exact qk hN hj hv (by simpa [nb] using hb) k
 |_=>
  have h0:∀D a,eY N D a ρ→Region.wanted ⟨some d,op,ty,pos,af,some (j,b)⟩ (yielded ops a.tmps)=false:=fun D a hf=>by
   have h2:=hf.at_ dj;rw [hv,acC] at h2
   cases h3:a.tmps[dj]? with
   |none=>simp [Region.wanted,yielded,hj,h3]
   |some x=>
    rw [h3] at h2;simp only [acW] at h2;subst h2;simp [Region.wanted,yielded,hj,h3]
  refine ⟨fun hm a hf=> ?_,fun a hf n=> ?_⟩
  ·unfold wpList;rw [h0 _ a hf];exact k.nE hm _ (hf.put hN undef)
  ·unfold wpListIn;rw [h0 _ a hf];exact ⟨fun _ _=>trivial,k.lh _ (hf.put hN undef) n⟩
theorem wa {op:Op}{ty:TypeId}{pos:String}{af:Array Edge}{j dj:Nat}{b c:Bool}
  (hj:(ops[j]?).bind (·.dst)=some dj) (hv:ρ dj=.bool c) (hb:c≠b) (k:WL ro P N ops Q rest ρ w):
  WL ro P N ops Q (⟨none,op,ty,pos,af,some (j,b)⟩::rest) ρ w:=
 have h0:∀D a,eY N D a ρ→Region.wanted ⟨none,op,ty,pos,af,some (j,b)⟩ (yielded ops a.tmps)=false:=fun D a hf=>by
  have h2:=hf.at_ dj;rw [hv,acC] at h2
  cases h3:a.tmps[dj]? with
  |none=>rw [h3] at h2;cases h2
  |some x=>
   rw [h3] at h2;simp only [acW] at h2;subst h2;simp [Region.wanted,yielded,hj,h3,hb]
 ⟨fun hm a hf=>by
  unfold wpList;rw [h0 _ a hf];exact k.nE hm _ hf,
 fun a hf n=>by
  unfold wpListIn;rw [h0 _ a hf];exact ⟨fun _ _=>trivial,k.lh _ hf n⟩⟩
end
section
variable {P:Program}{ρ:Rf}{w:World}{d:Option Nat}{ty:TypeId}{pos:String}{af:Array Edge}{g:Option (Nat×Bool)}
theorem ek {x:Operand}{v:Value} (hx:ev ρ x=v):(execOp (ev ρ) ⟨d,.move x,ty,pos,af,g⟩).run P w=.ok (.value v) w:=by simp [execOp,hx]
theorem EY {x:Operand}{v:Value} (hx:ev ρ x=v):(execOp (ev ρ) ⟨d,.assign x,ty,pos,af,g⟩).run P w=.ok (.value v) w:=by simp [execOp,hx]
theorem ES {c a b:Operand}{v:Value} (hc:ev ρ c=.bool true) (hx:ev ρ a=v):(execOp (ev ρ) ⟨d,.pick c a b,ty,pos,af,g⟩).run P w=.ok (.value v) w:=by simp [execOp,asBool,hc,hx]
theorem Fj {c a b:Operand}{v:Value} (hc:ev ρ c=.bool false) (hx:ev ρ b=v):(execOp (ev ρ) ⟨d,.pick c a b,ty,pos,af,g⟩).run P w=.ok (.value v) w:=by simp [execOp,asBool,hc,hx]
section ints
variable {t u:TypeId}{x y:Operand}{k:IntKind}{a b:Int}
theorem UH (hx:ev ρ x=.int k a) (hy:ev ρ y=.int k b):(execOp (ev ρ) ⟨d,.binOp .add t x y u,ty,pos,af,g⟩).run P w=.ok (.value (.int k (k.wrap (a+b)))) w:=by
 simp [execOp,hx,hy,eqGuard,binOp,Op.intArith]
theorem Ul (hx:ev ρ x=.int k a) (hy:ev ρ y=.int k b):(execOp (ev ρ) ⟨d,.binOp .sub t x y u,ty,pos,af,g⟩).run P w=.ok (.value (.int k (k.wrap (a-b)))) w:=by
 simp [execOp,hx,hy,eqGuard,binOp,Op.intArith]
theorem S3 (hx:ev ρ x=.int k a) (hy:ev ρ y=.int k b):(execOp (ev ρ) ⟨d,.binOp .mul t x y u,ty,pos,af,g⟩).run P w=.ok (.value (.int k (k.wrap (a*b)))) w:=by
 simp [execOp,hx,hy,eqGuard,binOp,Op.intArith]
theorem SZ (hx:ev ρ x=.int k a) (hy:ev ρ y=.int k b) (hb:b≠0):(execOp (ev ρ) ⟨d,.binOp .quo t x y u,ty,pos,af,g⟩).run P w=.ok (.value (.int k (k.wrap (a.tdiv b)))) w:=by
 simp [execOp,hx,hy,eqGuard,binOp,Op.intDiv,hb]
theorem UC (hx:ev ρ x=.int k a) (hy:ev ρ y=.int k b) (hb:b≠0):(execOp (ev ρ) ⟨d,.binOp .rem t x y u,ty,pos,af,g⟩).run P w=.ok (.value (.int k (a.tmod b))) w:=by
 simp [execOp,hx,hy,eqGuard,binOp,Op.intDiv,hb]
theorem Uh (hx:ev ρ x=.int k a) (hy:ev ρ y=.int k b):(execOp (ev ρ) ⟨d,.binOp .and t x y u,ty,pos,af,g⟩).run P w=.ok (.value (.int k (k.wrap (BitVec.ofInt k.bits a &&& BitVec.ofInt k.bits b).toNat))) w:=by
 simp [execOp,hx,hy,eqGuard,binOp,Op.intBits]
theorem Zk (hx:ev ρ x=.int k a) (hy:ev ρ y=.int k b):(execOp (ev ρ) ⟨d,.binOp .or t x y u,ty,pos,af,g⟩).run P w=.ok (.value (.int k (k.wrap (BitVec.ofInt k.bits a|||BitVec.ofInt k.bits b).toNat))) w:=by
 simp [execOp,hx,hy,eqGuard,binOp,Op.intBits]
theorem TT {k':IntKind} (hx:ev ρ x=.int k a) (hy:ev ρ y=.int k' b) (hb:0≤b):(execOp (ev ρ) ⟨d,.binOp .shl t x y u,ty,pos,af,g⟩).run P w=.ok (.value (.int k (k.wrap (a*2^(min b.toNat k.bits))))) w:=by
 simp [execOp,hx,hy,eqGuard,binOp,Op.shift,show ¬b<0 by omega]
theorem Uo {k':IntKind} (hx:ev ρ x=.int k a) (hy:ev ρ y=.int k' b) (hb:0≤b):(execOp (ev ρ) ⟨d,.binOp .shr t x y u,ty,pos,af,g⟩).run P w=.ok (.value (.int k (a.fdiv (2^(min b.toNat k.bits))))) w:=by
 simp [execOp,hx,hy,eqGuard,binOp,Op.shift,show ¬b<0 by omega]
theorem Eb {op:BinOp}:(eqGuard op t x y (.int k a) (.int k b)).run P w=.ok () w:=by
 unfold eqGuard;cases op<;>simp
theorem oU {op:BinOp}{r:Bool} (hx:ev ρ x=.int k a) (hy:ev ρ y=.int k b) (hop:(Op.intCmp op a b).run P w=.ok (.bool r) w) (hc:op=.eql∨op=.neq∨op=.lss∨op=.leq∨op=.gtr∨op=.geq):
  (execOp (ev ρ) ⟨d,.binOp op t x y u,ty,pos,af,g⟩).run P w=.ok (.value (.bool r)) w:=by
 rcases hc with h|h|h|h|h|h<;>subst h<;>simp [execOp,hx,hy,Eb,binOp,hop]
theorem SG (hx:ev ρ x=.int k a) (hy:ev ρ y=.int k b) (h:a<b):(execOp (ev ρ) ⟨d,.binOp .lss t x y u,ty,pos,af,g⟩).run P w=.ok (.value (.bool true)) w:=
 oU hx hy (by simp [Op.intCmp,h]) (by simp)
theorem QN (hx:ev ρ x=.int k a) (hy:ev ρ y=.int k b) (h:¬a<b):(execOp (ev ρ) ⟨d,.binOp .lss t x y u,ty,pos,af,g⟩).run P w=.ok (.value (.bool false)) w:=
 oU hx hy (by simp [Op.intCmp];omega) (by simp)
theorem Qi (hx:ev ρ x=.int k a) (hy:ev ρ y=.int k b) (h:a≤b):(execOp (ev ρ) ⟨d,.binOp .leq t x y u,ty,pos,af,g⟩).run P w=.ok (.value (.bool true)) w:=
 oU hx hy (by simp [Op.intCmp,h]) (by simp)
theorem QK (hx:ev ρ x=.int k a) (hy:ev ρ y=.int k b) (h:¬a≤b):(execOp (ev ρ) ⟨d,.binOp .leq t x y u,ty,pos,af,g⟩).run P w=.ok (.value (.bool false)) w:=
 oU hx hy (by simp [Op.intCmp];omega) (by simp)
theorem Qv (hx:ev ρ x=.int k a) (hy:ev ρ y=.int k b) (h:b<a):(execOp (ev ρ) ⟨d,.binOp .gtr t x y u,ty,pos,af,g⟩).run P w=.ok (.value (.bool true)) w:=
 oU hx hy (by simp [Op.intCmp,h]) (by simp)
theorem Si (hx:ev ρ x=.int k a) (hy:ev ρ y=.int k b) (h:¬b<a):(execOp (ev ρ) ⟨d,.binOp .gtr t x y u,ty,pos,af,g⟩).run P w=.ok (.value (.bool false)) w:=
 oU hx hy (by simp [Op.intCmp];omega) (by simp)
theorem Q7 (hx:ev ρ x=.int k a) (hy:ev ρ y=.int k b) (h:b≤a):(execOp (ev ρ) ⟨d,.binOp .geq t x y u,ty,pos,af,g⟩).run P w=.ok (.value (.bool true)) w:=
 oU hx hy (by simp [Op.intCmp,h]) (by simp)
theorem Rq (hx:ev ρ x=.int k a) (hy:ev ρ y=.int k b) (h:¬b≤a):(execOp (ev ρ) ⟨d,.binOp .geq t x y u,ty,pos,af,g⟩).run P w=.ok (.value (.bool false)) w:=
 oU hx hy (by simp [Op.intCmp];omega) (by simp)
theorem Sm (hx:ev ρ x=.int k a) (hy:ev ρ y=.int k b) (h:a≠b):(execOp (ev ρ) ⟨d,.binOp .neq t x y u,ty,pos,af,g⟩).run P w=.ok (.value (.bool true)) w:=
 oU hx hy (by simp [Op.intCmp,h]) (by simp)
theorem Sf (hx:ev ρ x=.int k a) (hy:ev ρ y=.int k b) (h:a=b):(execOp (ev ρ) ⟨d,.binOp .neq t x y u,ty,pos,af,g⟩).run P w=.ok (.value (.bool false)) w:=
 oU hx hy (by simp [Op.intCmp,h]) (by simp)
theorem JM (hx:ev ρ x=.int k a) (hy:ev ρ y=.int k b):(execOp (ev ρ) ⟨d,.binOp .eql t x y u,ty,pos,af,g⟩).run P w=.ok (.value (.bool (decide (a=b)))) w:=
 oU hx hy (by simp [Op.intCmp];rw [Bool.eq_iff_iff];simp) (by simp)
theorem TE (hx:ev ρ x=.int k a):(execOp (ev ρ) ⟨d,.unOp .neg t x,ty,pos,af,g⟩).run P w=.ok (.value (.int k (k.wrap (-a)))) w:=by
 simp [execOp,hx,Op.unary,Op.intArith]
theorem k8 {n:Int} (h1: -9223372036854775808≤n) (h2:n≤9223372036854775807):IntKind.i64.wrap n=n:=IntWalk.i64_in n ⟨h1,h2⟩
theorem M3 (hx:ev ρ x=.int .i64 a) (hy:ev ρ y=.int .i64 b) (h1: -9223372036854775808≤a+b) (h2:a+b≤9223372036854775807):(execOp (ev ρ) ⟨d,.binOp .add t x y u,ty,pos,af,g⟩).run P w=.ok (.value (.int .i64 (a+b))) w:=by
 rw [UH hx hy,k8 h1 h2]
theorem P0 (hx:ev ρ x=.int .i64 a) (hy:ev ρ y=.int .i64 b) (h1: -9223372036854775808≤a-b) (h2:a-b≤9223372036854775807):(execOp (ev ρ) ⟨d,.binOp .sub t x y u,ty,pos,af,g⟩).run P w=.ok (.value (.int .i64 (a-b))) w:=by
 rw [Ul hx hy,k8 h1 h2]
theorem Ok (hx:ev ρ x=.int .i64 a) (hy:ev ρ y=.int .i64 b) (h1: -9223372036854775808≤a*b) (h2:a*b≤9223372036854775807):(execOp (ev ρ) ⟨d,.binOp .mul t x y u,ty,pos,af,g⟩).run P w=.ok (.value (.int .i64 (a*b))) w:=by
 rw [S3 hx hy,k8 h1 h2]
theorem Mt (hx:ev ρ x=.int .i64 a) (h1: -9223372036854775808≤ -a) (h2: -a≤9223372036854775807):(execOp (ev ρ) ⟨d,.unOp .neg t x,ty,pos,af,g⟩).run P w=.ok (.value (.int .i64 (-a))) w:=by
 rw [TE hx,k8 h1 h2]
theorem xe (hx:ev ρ x=.int .i64 a) (hy:ev ρ y=.int .i64 b) (ha:0≤a) (hb:0<b) (h2:a≤9223372036854775807):(execOp (ev ρ) ⟨d,.binOp .quo t x y u,ty,pos,af,g⟩).run P w=.ok (.value (.int .i64 (a/b))) w:=by
 have h3:a/b≤a:=Int.ediv_le_self b ha;have h4:0≤a/b:=Int.ediv_nonneg ha abq;rw [SZ hx hy abq,Int.tdiv_eq_ediv_of_nonneg ha,k8 abq abq]
theorem qY (hx:ev ρ x=.int .i64 a) (hy:ev ρ y=.int .i64 b) (ha:0≤a) (hb:0<b):(execOp (ev ρ) ⟨d,.binOp .rem t x y u,ty,pos,af,g⟩).run P w=.ok (.value (.int .i64 (a % b))) w:=by
 rw [UC hx hy abq,Int.tmod_eq_emod_of_nonneg ha]
end ints
theorem UA {t:TypeId}{x:Operand}{b:Bool} (hx:ev ρ x=.bool b):(execOp (ev ρ) ⟨d,.unOp .not t x,ty,pos,af,g⟩).run P w=.ok (.value (.bool !b)) w:=by
 simp [execOp,hx,Op.unary]
section bools
variable {t u:TypeId}{x y:Operand}{a b:Bool}
theorem BT (n:Nat) (ht:P.underlying t=some .bool):(Op.equalIn (n+1) t (.bool a) (.bool b)).run P w=.ok (a==b) w:=by
 simp [Op.equalIn,run_underlying ht]
theorem vX (ht:P.underlying t=some .bool):(Op.equal t (.bool a) (.bool b)).run P w=.ok (a==b) w:=BT 9999 ht
theorem xT (ht:P.underlying t=some .bool):(binOp .eql t (.bool a) (.bool b)).run P w=.ok (.bool (a==b)) w:=by
 simp only [binOp];simp [vX ht]
theorem yb (ht:P.underlying t=some .bool):(binOp .neq t (.bool a) (.bool b)).run P w=.ok (.bool (a !=b)) w:=by
 simp only [binOp];simp [vX ht,bne]
theorem wD (ht:P.underlying t=some .bool) (hx:ev ρ x=.bool a) (hy:ev ρ y=.bool b):(execOp (ev ρ) ⟨d,.binOp .eql t x y u,ty,pos,af,g⟩).run P w=.ok (.value (.bool (a==b))) w:=by
 simp only [execOp,hx,hy,eqGuard];simp [xT ht]
theorem nB (ht:P.underlying t=some .bool) (hx:ev ρ x=.bool a) (hy:ev ρ y=.bool b):(execOp (ev ρ) ⟨d,.binOp .neq t x y u,ty,pos,af,g⟩).run P w=.ok (.value (.bool (a !=b))) w:=by
 simp only [execOp,hx,hy,eqGuard];simp [yb ht]
end bools
section Ew
variable {t u:TypeId}{x y:Operand}{a b:ByteArray}
theorem E3 {op:BinOp}:(eqGuard op t x y (.string a) (.string b)).run P w=.ok () w:=by
 unfold eqGuard;cases op<;>simp
theorem Fb {op:BinOp}{r:Value} (hx:ev ρ x=.string a) (hy:ev ρ y=.string b) (hs:op≠.shl∧op≠.shr) (hop:(Op.stringOp op a b).run P w=.ok r w):
  (execOp (ev ρ) ⟨d,.binOp op t x y u,ty,pos,af,g⟩).run P w=.ok (.value r) w:=by
 cases op<;>simp_all [execOp,E3,binOp]
theorem y8 (hx:ev ρ x=.string a) (hy:ev ρ y=.string b):(execOp (ev ρ) ⟨d,.binOp .eql t x y u,ty,pos,af,g⟩).run P w=.ok (.value (.bool (a.toList==b.toList))) w:=
 Fb hx hy (by simp) (by simp [Op.stringOp])
theorem z7 (hx:ev ρ x=.string a) (hy:ev ρ y=.string b):(execOp (ev ρ) ⟨d,.binOp .neq t x y u,ty,pos,af,g⟩).run P w=.ok (.value (.bool !(a.toList==b.toList))) w:=
 Fb hx hy (by simp) (by simp [Op.stringOp])
theorem MQ {a b:ByteArray}:(a.toList==b.toList)=decide (a=b):=by
 have key:∀s:ByteArray,s.toList=s.data.toList:=fun s=>by
  exact Yd
 rw [Bool.eq_iff_iff,ac3,ab1,key,key];constructor
 ·intro h;cases a;cases b;congr 1;exact Array.ext' h
 ·intro h;rw [h]
theorem CI (hx:ev ρ x=.string a) (hy:ev ρ y=.string b) (h:a=b):(execOp (ev ρ) ⟨d,.binOp .eql t x y u,ty,pos,af,g⟩).run P w=.ok (.value (.bool true)) w:=by
 rw [y8 hx hy,MQ];simp [h]
theorem D5 (hx:ev ρ x=.string a) (hy:ev ρ y=.string b) (h:¬a=b):(execOp (ev ρ) ⟨d,.binOp .eql t x y u,ty,pos,af,g⟩).run P w=.ok (.value (.bool false)) w:=by
 rw [y8 hx hy,MQ];simp [h]
theorem Dc (hx:ev ρ x=.string a) (hy:ev ρ y=.string b) (h:¬a=b):(execOp (ev ρ) ⟨d,.binOp .neq t x y u,ty,pos,af,g⟩).run P w=.ok (.value (.bool true)) w:=by
 rw [z7 hx hy,MQ];simp [h]
theorem DV (hx:ev ρ x=.string a) (hy:ev ρ y=.string b) (h:a=b):(execOp (ev ρ) ⟨d,.binOp .neq t x y u,ty,pos,af,g⟩).run P w=.ok (.value (.bool false)) w:=by
 rw [z7 hx hy,MQ];simp [h]
theorem KR (hx:ev ρ x=.string a) (hy:ev ρ y=.string b):(execOp (ev ρ) ⟨d,.binOp .lss t x y u,ty,pos,af,g⟩).run P w=.ok (.value (.bool (Op.bytesLess a.toList b.toList))) w:=
 Fb hx hy (by simp) (by simp [Op.stringOp])
theorem JW (hx:ev ρ x=.string a) (hy:ev ρ y=.string b):(execOp (ev ρ) ⟨d,.binOp .gtr t x y u,ty,pos,af,g⟩).run P w=.ok (.value (.bool !(Op.bytesLess a.toList b.toList||a.toList==b.toList))) w:=
 Fb hx hy (by simp) (by simp [Op.stringOp])
theorem Lx (hx:ev ρ x=.string a) (hy:ev ρ y=.string b):(execOp (ev ρ) ⟨d,.binOp .geq t x y u,ty,pos,af,g⟩).run P w=.ok (.value (.bool !(Op.bytesLess a.toList b.toList))) w:=
 Fb hx hy (by simp) (by simp [Op.stringOp])
end Ew
theorem nQ {s t:TypeId}{x:Operand}{k k':IntKind}{a:Int}{sd:TypeDesc} (hs:P.underlying s=some sd) (ht:P.underlying t=some (.int k)) (hx:ev ρ x=.int k' a):
  (execOp (ev ρ) ⟨d,.convert s t x,ty,pos,af,g⟩).run P w=.ok (.value (.int k (k.wrap a))) w:=by
 simp [execOp,hx,convert,run_underlying hs,run_underlying ht,Conv.intToInt]
theorem yn {s t:TypeId}{x:Operand}{k':IntKind}{a:Int}{sd:TypeDesc} (hs:P.underlying s=some sd) (ht:P.underlying t=some (.int .i64)) (hx:ev ρ x=.int k' a) (h1: -9223372036854775808≤a) (h2:a≤9223372036854775807):
  (execOp (ev ρ) ⟨d,.convert s t x,ty,pos,af,g⟩).run P w=.ok (.value (.int .i64 a)) w:=by
 rw [nQ hs ht hx,k8 h1 h2]
theorem dT {x:Operand}{i:Nat}{vs:List Value}{v:Value} (hx:ev ρ x=.tuple vs.toArray) (hv:vs[i]?=some v):
  (execOp (ev ρ) ⟨d,.extract x i,ty,pos,af,g⟩).run P w=.ok (.value v) w:=by
 simp [execOp,hx,Instr.extract,hv]
def xI (ρ:Rf):List Operand→List Value
 |[]=>[]
 |x::l=>ev ρ x::xI ρ l
theorem pM {ρ:Rf} (args:Array Operand) {vs:List Value} (h:xI ρ args.toList=vs):args.map (ev ρ)=vs.toArray:=by
 have h1:∀l:List Operand,l.map (ev ρ)=xI ρ l:=by
  intro l
  induction l with
  |nil=>rfl
  |cons a l ih=>simp only [ab8,ih];rfl
 subst h;rw [←h1];apply Array.ext';simp
theorem qJ {fn:Fn}{first captured:Array Operand}{fs cs:List Value} (hf:xI ρ first.toList=fs) (hc:xI ρ captured.toList=cs):
  (execOp (ev ρ) ⟨d,.makeFunc fn first captured,ty,pos,af,g⟩).run P w=.ok (.value (.func fn fs.toArray cs.toArray)) w:=by
 simp [execOp,pM _ hf,pM _ hc,Instr.makeFunc]
theorem eL {i:Nat}{k:IntKind}{n:Int} (h:ρ i=.int k n):ρ i=.int k n:=h
theorem mi {i:Nat}{b:Bool} (h:ρ i=.bool b):ρ i=.bool b:=h
theorem zK {i:Nat}{s:ByteArray} (h:ρ i=.string s):ρ i=.string s:=h
theorem KS {i:Nat}{A:Option Addr}{n c:Nat} (h:ρ i=.slice A n c):ρ i=.slice A n c:=h
theorem cH {x:Operand}{k:IntKind}{n:Int} (h:ev ρ x=.int k n):ev ρ x=.int k n:=h
theorem pT {x:Operand}{b:Bool} (h:ev ρ x=.bool b):ev ρ x=.bool b:=h
theorem Be {x:Operand}{s:ByteArray} (h:ev ρ x=.string s):ev ρ x=.string s:=h
theorem Aj {x:Operand}{A:Option Addr}{n c:Nat} (h:ev ρ x=.slice A n c):ev ρ x=.slice A n c:=h
theorem wX {x:Operand}{a:Addr} (h:ev ρ x=.pointer (some a)):ev ρ x=.pointer (some a):=h
theorem IB {x:Operand} (h:ev ρ x=.pointer none):ev ρ x=.pointer none:=h
theorem eR {x:Operand}{l:List Value} (h:ev ρ x=.agg l.toArray):ev ρ x=.agg l.toArray:=h
theorem Px {x:Operand}{l:List Value} (h:ev ρ x=.tuple l.toArray):ev ρ x=.tuple l.toArray:=h
theorem pz {x:Operand}{f:Fn}{a b:List Value} (h:ev ρ x=.func f a.toArray b.toArray):ev ρ x=.func f a.toArray b.toArray:=h
theorem uY {x:Operand} (h:ev ρ x=.nilFunc):ev ρ x=.nilFunc:=h
theorem Ld {x:Operand}{t:TypeId}{s:ByteArray} (ht:P.underlying t=some .string) (hx:ev ρ x=.string s):
  (execOp (ev ρ) ⟨d,.call ⟨.builtin .len, #[x], #[t]⟩,ty,pos,af,g⟩).run P w=.ok (.value (.int .i64 s.size)) w:=by
 simp [execOp,resolve,invoke,builtin,Builtin.len_,hx,run_underlying ht,goInt]
theorem Cx {x:Operand}{t e:TypeId}{A:Option Addr}{n c:Nat} (ht:P.underlying t=some (.slice e)) (hx:ev ρ x=.slice A n c):
  (execOp (ev ρ) ⟨d,.call ⟨.builtin .len, #[x], #[t]⟩,ty,pos,af,g⟩).run P w=.ok (.value (.int .i64 n)) w:=by
 simp [execOp,resolve,invoke,builtin,Builtin.len_,hx,run_underlying ht,goInt]
theorem WM {x y:Operand}{ts:Array TypeId}{k:IntKind}{a b:Int} (hx:ev ρ x=.int k a) (hy:ev ρ y=.int k b):
  (execOp (ev ρ) ⟨d,.call ⟨.builtin .min, #[x,y],ts⟩,ty,pos,af,g⟩).run P w=.ok (.value (.int k (if b<a then b else a))) w:=by
 simp [execOp,resolve,invoke,builtin,Builtin.min_,Builtin.min2,hx,hy,List.foldlM]
theorem Tf {x y:Operand}{ts:Array TypeId}{k:IntKind}{a b:Int} (hx:ev ρ x=.int k a) (hy:ev ρ y=.int k b):
  (execOp (ev ρ) ⟨d,.call ⟨.builtin .max, #[x,y],ts⟩,ty,pos,af,g⟩).run P w=.ok (.value (.int k (if b>a then b else a))) w:=by
 simp [execOp,resolve,invoke,builtin,Builtin.max_,Builtin.max2,hx,hy,List.foldlM]
theorem uL {t:TypeId}{x i:Operand}{s:ByteArray}{n:Int}{k:IntKind}{c:UInt8} (ht:P.underlying t=some .string) (hx:ev ρ x=.string s) (hi:ev ρ i=.int k n)
  (h0:0≤n) (hc:s.data.toList[n.toNat]?=some c):(execOp (ev ρ) ⟨d,.index t x i,ty,pos,af,g⟩).run P w=.ok (.value (.int .u8 c.toNat)) w:=by
 have hs:s[n.toNat]?=some c:=by
  rw [←hc];obtain ⟨h1,h2⟩:=abM.1 hc;have h3:n.toNat<s.size:=by simpa using h1
  rw [getElem?_pos s n.toNat h3,getElem?_pos s.data.toList n.toNat h1]
  rfl
 simp [execOp,hx,hi,Instr.index,asIntOf,run_underlying ht,h0,hs]
theorem Dl {t:TypeId}{x:Operand}{lo hi:Option Operand}{s:ByteArray}{l h:Nat} (ht:P.underlying t=some .string) (hx:ev ρ x=.string s)
  (hlo:match lo with|none=>l=0|some o=>∃(k:IntKind) (n:Int),ev ρ o=.int k n∧n=l) (hhi:match hi with|none=>h=s.size|some o=>∃(k:IntKind) (n:Int),ev ρ o=.int k n∧n=h)
  (h1:l≤h) (h2:h≤s.size):(execOp (ev ρ) ⟨d,.slice t x lo hi none,ty,pos,af,g⟩).run P w=.ok (.value (.string (s.extract l h))) w:=by
 have e1:(l:Int)≤h:=abq;have e2:(h:Int)≤s.size:=abq
 cases lo<;>cases hi<;>simp only [] at hlo hhi
 ·subst hlo;subst hhi;simp [execOp,hx,Instr.sliceAt,Instr.slice,run_underlying ht,Instr.sliceBounds]
 ·obtain ⟨k2,n2,hv2,rfl⟩:=hhi;subst hlo;simp [execOp,hx,Instr.sliceAt,Instr.slice,run_underlying ht,Instr.sliceBounds,Instr.sliceBound,asIntOf,hv2,h2]
 ·obtain ⟨k2,n2,hv2,rfl⟩:=hlo;subst hhi;simp [execOp,hx,Instr.sliceAt,Instr.slice,run_underlying ht,Instr.sliceBounds,Instr.sliceBound,asIntOf,hv2,h1]
 ·obtain ⟨k2,n2,hv2,rfl⟩:=hhi;obtain ⟨k3,n3,hv3,rfl⟩:=hlo;simp [execOp,hx,Instr.sliceAt,Instr.slice,run_underlying ht,Instr.sliceBounds,Instr.sliceBound,asIntOf,hv2,hv3,h1,h2]
theorem jf {t e:TypeId}{x:Operand}{lo hi:Option Operand}{A:Option Addr}{n c l h sz:Nat} (ht:P.underlying t=some (.slice e)) (hsz:(P.info? e).map (·.size)=some sz) (hx:ev ρ x=.slice A n c)
  (hlo:match lo with|none=>l=0|some o=>∃(k:IntKind) (n:Int),ev ρ o=.int k n∧n=l) (hhi:match hi with|none=>h=n|some o=>∃(k:IntKind) (n:Int),ev ρ o=.int k n∧n=h)
  (h1:l≤h) (h2:h≤c):(execOp (ev ρ) ⟨d,.slice t x lo hi none,ty,pos,af,g⟩).run P w=.ok (.value (.slice (if c=l then A else A.map (·.add (l*sz))) (h-l) (c-l))) w:=by
 obtain ⟨i,hi1,hi2⟩:=adA.1 hsz;have e1:(l:Int)≤h:=abq;have e2:(h:Int)≤c:=abq
 cases lo<;>cases hi<;>simp only [] at hlo hhi
 ·subst hlo;subst hhi;simp [execOp,hx,Instr.sliceAt,Instr.slice,run_underlying ht,Instr.sliceBounds,sizeOf,typeInfo,hi1]
 ·obtain ⟨k2,n2,hv2,rfl⟩:=hhi;subst hlo;simp [execOp,hx,Instr.sliceAt,Instr.slice,run_underlying ht,Instr.sliceBounds,Instr.sliceBound,asIntOf,hv2,h2,sizeOf,typeInfo,hi1]
 ·obtain ⟨k2,n2,hv2,rfl⟩:=hlo;subst hhi;simp [execOp,hx,Instr.sliceAt,Instr.slice,run_underlying ht,Instr.sliceBounds,Instr.sliceBound,asIntOf,hv2,h1,sizeOf,typeInfo,hi1,hi2]
 ·obtain ⟨k2,n2,hv2,rfl⟩:=hhi;obtain ⟨k3,n3,hv3,rfl⟩:=hlo;simp [execOp,hx,Instr.sliceAt,Instr.slice,run_underlying ht,Instr.sliceBounds,Instr.sliceBound,asIntOf,hv2,hv3,h1,h2,sizeOf,typeInfo,hi1,hi2]
theorem ep {t e:TypeId}{x i:Operand}{ad:Addr}{n c sz:Nat}{k:IntKind}{m:Int} (ht:P.underlying t=some (.slice e)) (hsz:(P.info? e).map (·.size)=some sz) (hx:ev ρ x=.slice (some ad) n c) (hi:ev ρ i=.int k m)
  (h0:0≤m) (h1:m<n):(execOp (ev ρ) ⟨d,.indexAddr t x i,ty,pos,af,g⟩).run P w=.ok (.value (.pointer (some (ad.add (m.toNat*sz))))) w:=by
 obtain ⟨i,hi1,hi2⟩:=adA.1 hsz;simp [execOp,hx,hi,Instr.indexAt,asIntOf,run_underlying ht,sizeOf,typeInfo,hi1,hi2,h0,h1]
theorem rb {t e:TypeId}{x i:Operand}{b n c sz k:Nat}{kk:IntKind}{m:Int} (ht:P.underlying t=some (.slice e)) (hsz:(P.info? e).map (·.size)=some sz) (hx:ev ρ x=.slice (some ⟨b,0,none⟩) n c) (hi:ev ρ i=.int kk m)
  (hm:m=(k:Int)) (h1:k<n):(execOp (ev ρ) ⟨d,.indexAddr t x i,ty,pos,af,g⟩).run P w=.ok (.value (.pointer (some ⟨b,k*sz,none⟩))) w:=by
 have h:=ep (P:=P) (w:=w) (d:=d) (ty:=ty) (pos:=pos) (af:=af) (g:=g) ht hsz hx hi abq abq;rw [h,hm];have:(⟨b,0,none⟩:Addr).add (((k:Int)).toNat*sz)=⟨b,k*sz,none⟩:=by
  unfold Addr.add;split
  ·rename_i h0;rw [ada] at h0;rw [h0]
  ·rw [ada];simp
 rw [this]
theorem MK {x:Operand}{args:Array Operand}{ts:Array TypeId}{f:FuncId}{fn:Func}{first cap:Array Value}{vs:Array Value} (hf:P.funcs[f]?=some fn) (hb:fn.body.isNone=false) (hn:(fn.name== "runtime.NumGoroutine")=false)
  (hx:ev ρ x=.func (.func f) first cap) (ha:args.map (ev ρ)=vs):(execOp (ev ρ) ⟨d,.call ⟨.value x,args,ts⟩,ty,pos,af,g⟩).run P w=.ok (.enter f (first++vs++cap)) w:=by
 have h1:¬fn.name= "runtime.NumGoroutine" :=by simpa using hn
 have h2:¬fn.body=none:=by intro h;simp [h] at hb
 simp [execOp,resolve,Deferred.ofValue,hx,ha,invoke,callFunc,program,Sem.run,hf,h1,h2]
end
def dy (P:Program) (t:TypeId):Option (Nat×Bool×Nat×List Value):=
 match P.info? t,P.underlying t with
 |some i,some d=>i.zero.map fun z=>(i.size,(match d with|.struct _|.array _ _=>true|_=>false),i.bytes,z.cells.toList)
 |_,_=>none
theorem gg {P:Program}{t:TypeId}{n by':Nat}{ag:Bool}{zc:List Value} (h:dy P t=some (n,ag,by',zc)):
  ∃i z d,P.info? t=some i∧P.underlying t=some d∧i.zero=some z∧i.size=n∧i.bytes=by'∧z.cells=zc.toArray∧(match d with|.struct _|.array _ _=>true|_=>false)=ag:=by
 unfold dy at h;split at h
 ·rename_i i d hi hd;obtain ⟨z,hz,he⟩:=adA.1 h;simp only [Prod.mk.injEq] at he;exact ⟨i,z,d,hi,hd,hz,he.1,he.2.2.1,by rw [←he.2.2.2],he.2.1⟩
 ·cases h
section
variable {P:Program}{w:World}{t:TypeId}{n by':Nat}{ag:Bool}{zc:List Value}
theorem fw (h:dy P t=some (n,ag,by',zc)):(sizeOf t).run P w=.ok n w:=by
 obtain ⟨i,z,d,hi,hd,hz,hs,_⟩:=gg h;simp [sizeOf,typeInfo,hi,hs]
theorem jX (h:dy P t=some (n,ag,by',zc)):(isAgg t).run P w=.ok ag w:=by
 obtain ⟨i,z,d,hi,hd,hz,hs,_,_,ha⟩:=gg h;simp only [isAgg,Sem.run_bind,run_underlying hd,Result.andThen_ok];subst ha
 cases d<;>rfl
theorem eh (h:dy P t=some (n,ag,by',zc)):∃z,(zeroValue t).run P w=.ok z w∧z.cells=zc.toArray:=by
 obtain ⟨i,z,d,hi,hd,hz,hs,_,hc,_⟩:=gg h;exact ⟨z,by simp [zeroValue,typeInfo,hi,hz],hc⟩
end
def Rd (w:World) (ad:Addr) (vs:List Value):Prop:=∀j u,vs[j]?=some u→w.cell? (ad.add j)=some u
def Sl (w:World) (A:Option Addr) (n k:Nat) (xs:List Value):Prop:=xs.length=n*k∧(0<n→∃ad,A=some ad∧Rd w ad xs)
theorem eN (b o n:Nat):(⟨b,o,none⟩:Addr).add n=⟨b,o+n,none⟩:=by
 unfold Addr.add;split
 ·rename_i h;subst h;rfl
 ·rfl
theorem sl (a:Addr) (i j:Nat):(a.add i).add j=a.add (i+j):=by
 unfold Addr.add;by_cases hi:i=0<;>by_cases hj:j=0<;>simp [hi,hj,aet]
theorem ni {w:World}{a:Addr}{v:Value} (h:w.cell? a=some v):a.block<w.heap.size:=block_lt_of_cell h
theorem bL {w w':World} (h:Below w.heap.size w w') {a:Addr}{v:Value} (hc:w.cell? a=some v):w'.cell? a=some v:=(h.cell (ni hc)).trans hc
theorem Rd.ext {w w':World}{ad:Addr}{vs:List Value} (h:Rd w ad vs) (hb:Below w.heap.size w w'):Rd w' ad vs:=fun j u hu=>bL hb (h j u hu)
theorem Sl.ext {w w':World}{A:Option Addr}{n k:Nat}{xs:List Value} (h:Sl w A n k xs) (hb:Below w.heap.size w w'):Sl w' A n k xs:=
 ⟨h.1,fun hn=>let ⟨ad,ha,hr⟩:=h.2 hn;⟨ad,ha,hr.ext hb⟩⟩
theorem Rd.drop {w:World}{ad:Addr}{vs:List Value} (h:Rd w ad vs) (i:Nat):Rd w (ad.add i) (vs.drop i):=fun j u hu=>by
 rw [sl];exact h _ u (by rw [←hu,adt])
theorem Rd.take {w:World}{ad:Addr}{vs:List Value} (h:Rd w ad vs) (n:Nat):Rd w ad (vs.take n):=fun j u hu=>by
 rw [ado] at hu;split at hu
 ·exact h _ u hu
 ·cases hu
theorem Rd.cell {w:World}{ad:Addr}{vs:List Value} (h:Rd w ad vs) {i:Nat}{v:Value} (hv:vs[i]?=some v):w.cell? (ad.add i)=some v:=h i v hv
theorem Sl.nil (w:World) (A:Option Addr) (k:Nat):Sl w A 0 k []:=⟨by simp,fun h=>absurd h abq⟩
theorem Sl.at_ {w:World}{A:Option Addr}{n k:Nat}{xs:List Value} (h:Sl w A n k xs) (hn:0<n):∃ad,A=some ad∧Rd w ad xs:=h.2 hn
theorem Rd.elem {w:World}{ad:Addr}{xs:List Value} (h:Rd w ad xs) (i k:Nat):Rd w (ad.add (i*k)) ((xs.drop (i*k)).take k):=(h.drop _).take _
theorem Sl.cut {w:World}{A:Option Addr}{n k c l m:Nat}{xs:List Value} (h:Sl w A n k xs) (hl:l≤m) (hm:m≤n) (hc:n≤c):
  Sl w (if c=l then A else A.map (·.add (l*k))) (m-l) k ((xs.drop (l*k)).take ((m-l)*k)):=by
 have hle:l*k+(m-l)*k≤n*k:=by
  rw [←adJ];exact acx _ abq
 refine ⟨by rw [abP,acJ,h.1];omega,fun hn=> ?_⟩;obtain ⟨ad,rfl,hr⟩:=h.2 abq;rw [abw abq];exact ⟨_,rfl,(hr.drop _).take _⟩
inductive HE where
 |blk (b:Nat) (t:TypeId) (cs:List Value) (fz:Nat×Nat)
 |row (A:Option Addr) (n c:Nat) (t:TypeId) (sz:Nat) (xs:List Value)
 |ob (b:Nat) (o:Obj)
abbrev HE.it (b:Nat) (s:ByteArray) (pos:Nat):HE:=.ob b (.stringIter s pos)
def HE.id:HE→Option Nat
 |.blk b _ _ _=>some b
 |.row A _ _ _ _ _=>A.map (·.block)
 |.ob b _=>some b
def HE.holds (base:Nat) (w:World):HE→Prop
 |.blk b t cs fz=>base≤b∧w.heap[b]?=some (.cells cs.toArray t fz)∧(cs.length≤fz.1∨fz.2≤fz.1)
 |.row A n c t sz xs=>w.ownsRow base t sz (.slice A n c) n xs
 |.ob b o=>base≤b∧w.heap[b]?=some o
structure Hp (w0:World) (H:List HE) (w:World):Prop where
 below:Below w0.heap.size w0 w
 own:∀x∈H,x.holds w0.heap.size w
 nd:(H.filterMap HE.id).Nodup
section
variable {w0 w w':World}{H:List HE}
theorem Hp.start (w:World):Hp w [] w:=⟨Below.refl _ _,fun _ h=>(nomatch h),List.nodup_nil⟩
theorem Hp.size (h:Hp w0 H w):w0.heap.size≤w.heap.size:=h.below.size
theorem fg {base:Nat}{x:HE} (h:x.holds base w) {b:Nat} (hb:x.id=some b):base≤b∧b<w.heap.size:=by
 cases x with
 |blk b' t cs fz=>
  obtain rfl:b'=b:=by simpa [HE.id] using hb
  refine ⟨h.1, ?_⟩
  rcases acj b' w.heap.size with hlt|hge
  ·exact hlt
  ·have:=h.2.1;rw [aeR hge] at this;cases this
 |row A n c t sz xs=>
  cases A with
  |none=>simp [HE.id] at hb
  |some a=>exact World.ownsRow.lt h b (by simpa [HE.id,Value.ownBlock] using hb)
 |ob b' o=>
  obtain rfl:b'=b:=by simpa [HE.id] using hb
  refine ⟨h.1, ?_⟩
  rcases acj b' w.heap.size with hlt|hge
  ·exact hlt
  ·have:=h.2;rw [aeR hge] at this;cases this
theorem qE {base:Nat}{x:HE} (h:x.holds base w) (hk:∀b,x.id=some b→w'.heap[b]?=w.heap[b]?):x.holds base w':=by
 cases x with
 |blk b t cs fz=>exact ⟨h.1,(hk b rfl).trans h.2.1,h.2.2⟩
 |row A n c t sz xs=>
  obtain ⟨h1,h2⟩:=h;refine ⟨h1, ?_⟩
  rcases h2 with h2|⟨g,cap,cur,hv,hg,hh,r⟩
  ·exact .inl h2
  ·have hA:A=some ⟨g,0,none⟩:=by injection hv
   subst hA;exact .inr ⟨g,cap,cur,hv,hg,(hk g rfl).trans hh,r⟩
 |ob b o=>exact ⟨h.1,(hk b rfl).trans h.2⟩
theorem Hp.ext (h:Hp w0 H w) (hb:Below w.heap.size w w'):Hp w0 H w':=
 ⟨h.below.trans (hb.mono h.size),fun x hx=>qE (h.own x hx) fun _ hi=>hb.block _ (fg (h.own x hx) hi).2,h.nd⟩
theorem Hp.sub (h:Hp w0 H w) {H':List HE} (hs:H'.Sublist H):Hp w0 H' w:=⟨h.below,fun x hx=>h.own x (hs.subset hx),h.nd.sublist (hs.filterMap _)⟩
theorem Hp.at_ (h:Hp w0 H w) {i:Nat}{x:HE} (hi:H[i]?=some x):x.holds w0.heap.size w:=h.own x (abz hi)
theorem Hp.aD (h:Hp w0 H w) (hb:Below w.heap.size w w') {x:HE} (hx:x.holds w.heap.size w'):Hp w0 (x::H) w':=by
 have h':=h.ext hb;refine ⟨h'.below, ?_, ?_⟩
 ·intro y hy
  rcases abO.1 hy with rfl|hy
  ·cases y with
   |blk b t cs fz=>exact ⟨abW h.size hx.1,hx.2⟩
   |row A n c t sz xs=>
    obtain ⟨h1,h2⟩:=hx;exact ⟨h1,h2.imp id fun ⟨g,cap,cur,hv,hg,r⟩=>⟨g,cap,cur,hv,abW h.size hg,r⟩⟩
   |ob b o=>exact ⟨abW h.size hx.1,hx.2⟩
  ·exact h'.own y hy
 ·rw [adL];split
  ·exact h'.nd
  ·rename_i b hb';refine adI.2 ⟨fun hm=> ?_,h'.nd⟩;obtain ⟨y,hy,hyb⟩:=ac0.1 hm;have h1:=(fg hx hb').1;have h2:=(fg (h.own y hy) hyb).2;omega
theorem Hp.PC (h:Hp w0 H w) {i:Nat}{x y:HE} (hi:H[i]?=some x) (hid:∀b,y.id=some b→x.id=some b∨w.heap.size≤b)
  (hb:Below w0.heap.size w0 w') (hk:∀b,b<w.heap.size→x.id≠some b→w'.heap[b]?=w.heap[b]?) (hy:y.holds w0.heap.size w'):Hp w0 (H.set i y) w':=by
 obtain ⟨hlt,hx⟩:=abM.1 hi;have hsplit:H=H.take i++x::H.drop (i+1):=by
  rw [←hx,←ady hlt,acH]
 have hset:H.set i y=H.take i++y::H.drop (i+1):=by rw [aeY,abx hlt]
 have hnd:=h.nd;rw [hsplit,ae7] at hnd;have hother:∀z,z∈H.take i∨z∈H.drop (i+1)→z∈H∧(∀b,z.id=some b→x.id≠some b):=by
  intro z hz;refine ⟨hz.elim adx afb,fun b hzb hxb=> ?_⟩;rw [adL,hxb] at hnd;simp only [] at hnd;rw [List.nodup_append] at hnd
  rcases hz with hz|hz
  ·exact hnd.2.2 b (ac0.2 ⟨z,hz,hzb⟩) b (abF) rfl
  ·exact (adI.1 hnd.2.1).1 (ac0.2 ⟨z,hz,hzb⟩)
 have hold:∀z,z∈H.take i∨z∈H.drop (i+1)→z.holds w0.heap.size w':=fun z hz=>by
  obtain ⟨hm,hne⟩:=hother z hz;exact qE (h.own z hm) fun b hzb=>hk b (fg (h.own z hm) hzb).2 (hne b hzb)
 rw [hset];refine ⟨hb, ?_, ?_⟩
 ·intro z hz
  rcases acq.1 hz with hz|hz
  ·exact hold z (.inl hz)
  ·rcases abO.1 hz with rfl|hz
   ·exact hy
   ·exact hold z (.inr hz)
 ·rw [ae7];have hsub:((H.take i).filterMap HE.id++(H.drop (i+1)).filterMap HE.id).Nodup:=by
   refine hnd.sublist (List.Sublist.append (aco _) ?_);exact List.Sublist.filterMap _ (acn _ _)
  rw [adL];split
  ·exact hsub
  ·rename_i b hyb;have hfresh:∀z,z∈H.take i∨z∈H.drop (i+1)→z.id≠some b:=fun z hz hzb=>by
    obtain ⟨hm,hne⟩:=hother z hz
    rcases hid b hyb with h1|h1
    ·exact hne b hzb h1
    ·have:=(fg (h.own z hm) hzb).2;omega
   rw [List.nodup_append] at hsub ⊢;refine ⟨hsub.1,adI.2 ⟨fun hm=> ?_,hsub.2.1⟩,fun u hu v hv=> ?_⟩
   ·obtain ⟨z,hz,hzb⟩:=ac0.1 hm;exact hfresh z (.inr hz) hzb
   ·rcases abO.1 hv with rfl|hv
    ·rintro rfl;obtain ⟨z,hz,hzb⟩:=ac0.1 hu;exact hfresh z (.inl hz) hzb
    ·exact hsub.2.2 u hu v hv
end
section
variable {w0 w w':World}{H:List HE}
theorem Hp.L7 (h:Hp w0 H w) {i b:Nat}{t:TypeId}{cs:List Value}{fz:Nat×Nat} (hi:H[i]?=some (.blk b t cs fz)):Rd w ⟨b,0,none⟩ cs:=fun j u hu=>by
 have h1:=(h.at_ hi).2.1;rw [eN,ab2,cell_of_row w b j _ t fz h1];simpa using hu
theorem Hp.ej (h:Hp w0 H w) {i b o:Nat}{t:TypeId}{cs:List Value}{fz:Nat×Nat}{v:Value} (hi:H[i]?=some (.blk b t cs fz)) (hv:cs[o]?=some v):w.cell? ⟨b,o,none⟩=some v:=by
 have:=h.L7 hi o v hv;rwa [eN,ab2] at this
theorem Hp.aE (h:Hp w0 H w) {i b o n:Nat}{t:TypeId}{cs vs:List Value}{fz:Nat×Nat} (hi:H[i]?=some (.blk b t cs fz)) (hv:(cs.drop o).take n=vs):Rd w ⟨b,o,none⟩ vs:=by
 have:=((h.L7 hi).drop o).take n;rwa [eN,ab2,hv] at this
theorem nV {base:Nat}{t:TypeId}{A:Option Addr}{n c sz:Nat}{xs:List Value} (h:w.ownsRow base t sz (.slice A n c) n xs):Sl w A n sz xs:=by
 refine ⟨h.1,fun hn=> ?_⟩;obtain ⟨g,cap,hv,_,hlt⟩:=h.form hn;have hA:A=some ⟨g,0,none⟩:=by injection hv
 subst hA;exact ⟨_,rfl,h.cells (g:=g) rfl⟩
theorem Hp.bP (h:Hp w0 H w) {i n c sz:Nat}{A:Option Addr}{t:TypeId}{xs:List Value} (hi:H[i]?=some (.row A n c t sz xs)) (hn:0<n):∃g,A=some ⟨g,0,none⟩:=by
 obtain ⟨g,cap,hv,_⟩:=World.ownsRow.form (h.at_ hi) hn;injection hv with hA
 exact ⟨g,hA⟩
theorem Hp.ff (h:Hp w0 H w) {i b n c sz o:Nat}{t:TypeId}{xs:List Value}{v:Value} (hi:H[i]?=some (.row (some ⟨b,0,none⟩) n c t sz xs)) (hv:xs[o]?=some v):w.cell? ⟨b,o,none⟩=some v:=by
 have:=World.ownsRow.cells (h.at_ hi) (g:=b) rfl o v hv;rwa [eN,ab2] at this
theorem Hp.SF (h:Hp w0 H w) {i n c sz:Nat}{A:Option Addr}{t:TypeId}{xs:List Value} (hi:H[i]?=some (.row A n c t sz xs)):xs.length=n*sz:=(h.at_ hi).1
theorem Hp.ao (h:Hp w0 H w) {i n c sz:Nat}{A:Option Addr}{t:TypeId}{xs:List Value} (hi:H[i]?=some (.row A n c t sz xs)):Sl w A n sz xs:=nV (h.at_ hi)
end
section
variable {P:Program}{ρ:Rf}{w:World}{d:Option Nat}{ty:TypeId}{pos:String}{af:Array Edge}{g:Option (Nat×Bool)}
theorem xz {t:TypeId}{x:Operand}{ad:Addr}{n by':Nat}{zc vs:List Value} (ht:dy P t=some (n,true,by',zc)) (hx:ev ρ x=.pointer (some ad)) (hr:Rd w ad vs) (hl:vs.length=n):
  (execOp (ev ρ) ⟨d,.load t x,ty,pos,af,g⟩).run P w=.ok (.value (.agg vs.toArray)) w:=by
 subst hl;simp [execOp,hx,Instr.loadAt,Instr.sureAddr,loadVar,jX ht,fw ht,run_loadCells_list (P:=P) w ad vs hr]
theorem iF {t:TypeId}{x:Operand}{ad:Addr}{n by':Nat}{zc:List Value}{v:Value} (ht:dy P t=some (n,false,by',zc)) (hx:ev ρ x=.pointer (some ad)) (hc:w.cell? ad=some v):
  (execOp (ev ρ) ⟨d,.load t x,ty,pos,af,g⟩).run P w=.ok (.value v) w:=by
 simp [execOp,hx,Instr.loadAt,Instr.sureAddr,loadVar,jX ht,run_load,hc]
theorem bJ {t:TypeId}{ad:Addr}{n by':Nat}{zc vs:List Value} (ht:dy P t=some (n,true,by',zc)) (hr:Rd w ad vs) (hl:vs.length=n):
  (loadVar t ad).run P w=.ok (.agg vs.toArray) w:=by
 subst hl;simp [loadVar,jX ht,fw ht,run_loadCells_list (P:=P) w ad vs hr]
def iL (P:Program) (s:TypeId) (i:Nat):Option (Nat×TypeId):=
 match P.underlying s with
 |some (.struct fs)=>match fs[i]? with
  |some f=>if P.cellsOf f.type=0 then none else some (f.offset,f.type)
  |none=>none
 |_=>none
theorem ue {s:TypeId}{x:Operand}{f b o off:Nat}{ft:TypeId} (hf:iL P s f=some (off,ft)) (hx:ev ρ x=.pointer (some ⟨b,o,none⟩)):
  (execOp (ev ρ) ⟨d,.fieldAddr s x f,ty,pos,af,g⟩).run P w=.ok (.value (.pointer (some ⟨b,o+off,none⟩))) w:=by
 unfold iL at hf;split at hf
 ·rename_i fs hs;split at hf
  ·rename_i fd hfd;split at hf
   ·cases hf
   ·rename_i hc;simp only [adv,Prod.mk.injEq] at hf;obtain ⟨rfl,rfl⟩:=hf;have hsz:∃i,P.info? fd.type=some i∧i.size≠0:=by
     exact Xp
    obtain ⟨i,hi,hi0⟩:=hsz;simp [execOp,hx,Instr.fieldAt,run_underlying hs,hfd,Instr.sureAddr,fieldPlace,sizeOf,typeInfo,hi,hi0,eN]
  ·cases hf
 ·cases hf
theorem rD {s:TypeId}{x:Operand}{f off:Nat}{ad:Addr}{ft:TypeId} (hf:iL P s f=some (off,ft)) (hx:ev ρ x=.pointer (some ad)):
  (execOp (ev ρ) ⟨d,.fieldAddr s x f,ty,pos,af,g⟩).run P w=.ok (.value (.pointer (some (ad.add off)))) w:=by
 unfold iL at hf;split at hf
 ·rename_i fs hs;split at hf
  ·rename_i fd hfd;split at hf
   ·cases hf
   ·rename_i hc;simp only [adv,Prod.mk.injEq] at hf;obtain ⟨rfl,rfl⟩:=hf;have hsz:∃i,P.info? fd.type=some i∧i.size≠0:=by
     exact Xp
    obtain ⟨i,hi,hi0⟩:=hsz;simp [execOp,hx,Instr.fieldAt,run_underlying hs,hfd,Instr.sureAddr,fieldPlace,sizeOf,typeInfo,hi,hi0]
  ·cases hf
 ·cases hf
theorem Ry {s:TypeId}{x:Operand}{f off n by':Nat}{ft:TypeId}{cs vs:Array Value}{zc:List Value} (hf:iL P s f=some (off,ft)) (ht:dy P ft=some (n,true,by',zc)) (hx:ev ρ x=.agg cs) (hv:cs.extract off (off+n)=vs):
  (execOp (ev ρ) ⟨d,.field s x f,ty,pos,af,g⟩).run P w=.ok (.value (.agg vs)) w:=by
 unfold iL at hf;split at hf
 ·rename_i fs hs;split at hf
  ·rename_i fd hfd;split at hf
   ·cases hf
   ·simp only [adv,Prod.mk.injEq] at hf;obtain ⟨rfl,rfl⟩:=hf;simp [execOp,hx,Instr.field,run_underlying hs,hfd,asAgg,part,jX ht,fw ht,hv]
  ·cases hf
 ·cases hf
end
section
variable {ro:Mode}
def bK (cs:List Value) (o:Nat) (vs:List Value):List Value:=cs.take o++vs++cs.drop (o+vs.length)
theorem fD {cs vs:List Value}{o:Nat} (h:o+vs.length≤cs.length):(bK cs o vs).length=cs.length:=by
 simp only [bK,abJ,abP,acJ];omega
theorem xu (cs:List Value) (o:Nat):bK cs o []=cs:=by simp [bK]
theorem uf {cs vs:List Value}{o:Nat}{v:Value} (h:o+(v::vs).length≤cs.length):bK cs o (v::vs)=bK (cs.set o v) (o+1) vs:=by
 simp only [ab0] at h;have h0:cs.set o v=cs.take o++v::cs.drop (o+1):=by rw [aeY,abx abq]
 have h2:(cs.take o).length=o:=by simp;omega
 have h1:(cs.set o v).take (o+1)=cs.take o++[v]:=by
  rw [h0,List.take_append,h2,abG abq];simp
 have h3:(cs.set o v).drop (o+1+vs.length)=cs.drop (o+1+vs.length):=List.drop_set_of_lt abq;unfold bK;rw [h1,h3];simp [aet,adD 1]
theorem yC {a b c:World}{r:Option Nat} (h:a.grownBy b r) (k:b.grownBy c r):a.grownBy c r:=
 ⟨k.os.trans h.os,k.tape.trans h.tape,k.output.trans h.output,abW h.size k.size,fun i hi hne=>(k.block i (acu hi h.size) hne).trans (h.block i hi hne)⟩
theorem EA (w:World) (b o:Nat) (v:Value):w.grownBy (w.setCell ⟨b,o,none⟩ v) (some b):=
 ⟨rfl,rfl,rfl,by simp [World.setCell],fun k _ hne=>Below.heap_setCell w _ v k (fun e=>hne (by rw [e]))⟩
section
variable {P:Program}
theorem gW {b:Nat}{t:TypeId}{fz:Nat×Nat} (o:Nat):∀(vs:List Value) (i:Nat) (cs:List Value) (w:World),w.heap[b]?=some (.cells cs.toArray t fz)→(cs.length≤fz.1∨fz.2≤fz.1)→
  o+i+vs.length≤cs.length→(∀v∈vs,v.oneCell'=true)→
  ∃w',(storeCells ⟨b,o,none⟩ vs i).run P w=.ok () w'∧w'.heap[b]?=some (.cells (bK cs (o+i) vs).toArray t fz)∧w.grownBy w' (some b)∧w'.heap.size=w.heap.size
 |[],i,cs,w,hw,_,_,_=>⟨w,by simp [storeCells],by rw [xu];exact hw,World.grownBy.refl _ _,rfl⟩
 |v::vs,i,cs,w,hw,hf,hl,h1=>by
  simp only [ab0] at hl;have hoi:o+i<cs.length:=abq;have hc:w.cell? ⟨b,o+i,none⟩=some cs[o+i]:=by
   rw [cell_of_row w b (o+i) _ t fz hw];simp [ac1 hoi]
  have hfr:w.frozen? ⟨b,o+i,none⟩=false:=by
   simp only [World.frozen?,hw]
   rcases hf with hf|hf<;>simp<;>omega
  have hw2:(w.setCell ⟨b,o+i,none⟩ v).heap[b]?=some (.cells (cs.set (o+i) v).toArray t fz):=by
   simp [World.setCell,Array.getElem?_modify,hw]
  obtain ⟨w',hr,hb',hg,hs⟩:=gW (b:=b) (t:=t) (fz:=fz) o vs (i+1) (cs.set (o+i) v) _ hw2 (by simpa using hf) (by simp;omega) (fun u hu=>h1 u (abN _ hu));refine ⟨w', ?_, ?_,yC (EA w b (o+i) v) hg,hs.trans (by simp [World.setCell])⟩
  ·simp only [storeCells,Sem.run_bind,eN,run_store P w ⟨b,o+i,none⟩ v .plain (h1 v (abF)),hc,hfr];simpa using hr
  ·rw [uf (by simp;omega)];exact hb'
end
def lR (pl:Nat→Option (Nat×Nat)):List Value→List (Nat×Value)→Option (List Value)
 |cs,[]=>some cs
 |cs,(i,v)::r=>
  match pl i with
  |none=>none
  |some (off,size)=>if v.cells.toList.length≠size∨cs.length<off+v.cells.toList.length then none else lR pl (bK cs off v.cells.toList) r
theorem rG:∀(vs:List Value) (k o:Nat) (cs:List Value),o+k+vs.length≤cs.length→
  (vs.zipIdx k).foldl (fun (cs:Array Value) (x:Value×Nat)=>cs.setIfInBounds (o+x.2) x.1) cs.toArray=(bK cs (o+k) vs).toArray
 |[],k,o,cs,_=>by simp [xu]
 |v::vs,k,o,cs,h=>by
  rw [List.zipIdx_cons,ad8];simp only [List.setIfInBounds_toArray];rw [rG vs (k+1) o (cs.set (o+k) v) (by simp at h ⊢;omega),uf (by simp at h ⊢;omega)]
  rfl
theorem Bg {pl:Nat→Option (Nat×Nat)}:∀(ps:List (Nat×Value)) (zs cs:List Value),lR pl zs ps=some cs→Instr.fill pl zs.toArray ps=some cs.toArray
 |[],zs,cs,h=>by simp only [lR,adv] at h;subst h;rfl
 |(i,v)::r,zs,cs,h=>by
  unfold lR at h;unfold Instr.fill;split at h
  ·cases h
  ·rename_i off size hpl;split at h
   ·cases h
   ·rename_i hc;simp only [ne_eq,not_or,Decidable.not_not,Nat.not_lt] at hc;simp only [hpl];have h1:¬((v.cells.size≠size||decide (off+v.cells.size>zs.toArray.size))=true):=by
     have e:v.cells.size=v.cells.toList.length:=by simp
     simp only [e,hc.1,aei,aea,ab1,ne_eq,not_true,decide_false,aey,false_or];omega
    rw [abw h1];have h2:v.cells.zipIdx.foldl (fun (cs:Array Value) (x:Value×Nat)=>cs.setIfInBounds (off+x.2) x.1) zs.toArray=(bK zs off v.cells.toList).toArray:=by
     have:=rG v.cells.toList 0 off zs abq;rw [acY] at this;rw [←this,←Array.foldl_toList,Array.toList_zipIdx]
    exact (acm (fun x=>Instr.fill pl x r) h2).trans (Bg r _ cs h)
def hZ:Nat→List Value→List Value
 |0,_=>[]
 |n+1,zc=>zc++hZ n zc
theorem kp (n:Nat) (zc:List Value):(hZ n zc).length=n*zc.length:=by
 induction n with
 |zero=>simp [hZ]
 |succ n ih=>simp [hZ,ih,adJ,adD]
theorem Bd:∀(n:Nat) (zc:List Value) (i:Nat),i<n*zc.length→(hZ n zc)[i]?=zc[i % zc.length]?
 |0,zc,i,h=>by simp at h
 |n+1,zc,i,h=>by
  unfold hZ
  rcases acj i zc.length with hi|hi
  ·rw [adE hi,aci hi]
  ·rw [acP hi,Bd n zc (i-zc.length) (by rw [adJ] at h;omega)];congr 1;rw [Nat.mod_eq_sub_mod hi]
theorem vL (n:Nat) (zc:List Value):(Array.range (n*zc.length)).map (fun i=>zc.toArray[i % zc.length]!)=(hZ n zc).toArray:=by
 apply Array.ext_getElem?;intro i
 rcases acj i (n*zc.length) with h|h
 ·have hpos:0<zc.length:=by
   rcases adw zc.length with h0|h0
   ·rw [h0] at h;omega
   ·exact h0
  have hm:i % zc.length<zc.length:=ab4 _ hpos;simp [h,Bd n zc i h,ac1 hm]
 ·have h2:(hZ n zc).length≤i:=by rw [kp];exact h
  simp [h2,h]
def Cm (ρ:Rf):List (Nat×Operand)→List (Nat×Value)
 |[]=>[]
 |(i,x)::l=>(i,ev ρ x)::Cm ρ l
theorem HA {ρ:Rf} (parts:Array (Nat×Operand)) {ps:List (Nat×Value)} (h:Cm ρ parts.toList=ps):(parts.map fun (i,x)=>(i,ev ρ x))=ps.toArray:=by
 have h1:∀l:List (Nat×Operand),l.map (fun (i,x)=>(i,ev ρ x))=Cm ρ l:=by
  intro l
  induction l with
  |nil=>rfl
  |cons a l ih=>simp only [ab8,ih];rfl
 subst h;rw [←h1];apply Array.ext';simp
section
variable {P:Program}{N:Nat}{ops:Array Oper}{Q:Kq}{ρ:Rf}{w w0:World}{rest:List Oper}{H:List HE}{d:Nat}{ty:TypeId}{pos:String}{af:Array Edge}
theorem xv {w':World}{r:Option Nat} (h:Below w0.heap.size w0 w) (hg:w.grownBy w' r) (hr:∀k,r=some k→w0.heap.size≤k):Below w0.heap.size w0 w':=h.grown hg h.size hr
theorem Hp.grown {w':World}{x y:HE}{i:Nat} (h:Hp w0 H w) (hi:H[i]?=some x) (hg:w.grownBy w' x.id) (hid:y.id=x.id∨y.id=none∨y.id=some w.heap.size) (hy:y.holds w0.heap.size w'):Hp w0 (H.set i y) w':=by
 refine h.PC hi (fun b hb=> ?_) (xv h.below hg fun k hk=>(fg (h.at_ hi) hk).1) (fun b hlt hne=>hg.block b hlt (fun e=>hne e.symm)) hy
 rcases hid with e|e|e
 ·exact .inl (by rw [←e];exact hb)
 ·rw [e] at hb;cases hb
 ·rw [e] at hb;injection hb with hb
  exact .inr abq
theorem Hp.cJ (h:Hp w0 H w) (t:TypeId) (sz:Nat):Hp w0 (.row none 0 0 t sz []::H) w:=
 ⟨h.below,fun x hx=>by
  rcases abO.1 hx with rfl|hx
  ·exact World.ownsRow_nil _ _ _ _
  ·exact h.own x hx,by show (List.filterMap HE.id H).Nodup;exact h.nd⟩
theorem Hp.JH (h:Hp w0 H w) (t:TypeId) (cs:List Value):Hp w0 (.blk w.heap.size t cs (0,0)::H) (w.alloc (.cells cs.toArray t)):=
 h.aD ((Below.refl _ _).alloc (abD _) _) ⟨abD _,heap_alloc_new w _,.inr (abD _)⟩
theorem Hp.Bz (h:Hp w0 H w) (t:TypeId) (sz n:Nat) (cs:List Value) (hl:cs.length=n*sz) (hn:n≤maxLen):Hp w0 (.row (some ⟨w.heap.size,0,none⟩) n n t sz cs::H) (w.alloc (.cells cs.toArray t)):=
 h.aD ((Below.refl _ _).alloc (abD _) _) ⟨hl,.inr ⟨w.heap.size,n,cs.toArray,rfl,abD _,heap_alloc_new w _,abD _,hn,by simpa using hl,by simp only [abG (show cs.length≤n*sz by omega)]⟩⟩
theorem Mp (hh:Hp w0 H w) {t:TypeId}{x:Operand}{cs:List Value}{v:Value} (hx:ev ρ x=v) (hc:v.cells=cs.toArray) (hN:d<N)
  (k:∀b w',Hp w0 (.blk b t cs (0,0)::H) w'→WL ro P N ops Q rest (cg ρ d (.pointer (some ⟨b,0,none⟩))) w'):WL ro P N ops Q (⟨some d,.box t x,ty,pos,af,none⟩::rest) ρ w:=
 aM rfl rfl hN (w':=w.alloc (.cells cs.toArray t)) (v:=.pointer (some ⟨w.heap.size,0,none⟩)) (by simp [execOp,hx,Instr.box,newVar,newRow,hc]) (k _ _ (hh.JH t cs))
theorem Ph (hh:Hp w0 H w) {t:TypeId}{n by':Nat}{ag:Bool}{zc:List Value} (ht:dy P t=some (n,ag,by',zc)) (hN:d<N)
  (k:∀b w',Hp w0 (.blk b t zc (0,0)::H) w'→WL ro P N ops Q rest (cg ρ d (.pointer (some ⟨b,0,none⟩))) w'):WL ro P N ops Q (⟨some d,.alloc t,ty,pos,af,none⟩::rest) ρ w:=by
 obtain ⟨z,hz,hzc⟩:=eh (w:=w) ht;exact aM rfl rfl hN (w':=w.alloc (.cells zc.toArray t)) (v:=.pointer (some ⟨w.heap.size,0,none⟩)) (by simp [execOp,Instr.alloc,newVar,newRow,hz,hzc]) (k _ _ (hh.JH t zc))
theorem Cw (hh:Hp w0 H w) {t t':TypeId}{x y:Operand}{i b o n by':Nat}{ag:Bool}{zc cs vs:List Value}{fz:Nat×Nat}{v:Value} (hx:ev ρ x=.pointer (some ⟨b,o,none⟩)) (hi:H[i]?=some (.blk b t' cs fz))
  (hy:ev ρ y=v) (hc:v.cells=vs.toArray) (ht:dy P t=some (n,ag,by',zc)) (hl:vs.length=n) (ho:o+n≤cs.length) (h1:(vs.all Value.oneCell')=true)
  (k:∀w',Hp w0 (H.set i (.blk b t' (bK cs o vs) fz)) w'→WL ro P N ops Q rest ρ w'):WL ro P N ops Q (⟨none,.store t x y,ty,pos,af,none⟩::rest) ρ w:=by
 have hb:=hh.at_ hi;obtain ⟨w',hr,hb',hg,hs⟩:=gW (P:=P) (b:=b) (t:=t') (fz:=fz) o vs 0 cs w hb.2.1 hb.2.2 abq (by simpa using h1);refine HI rfl rfl (w':=w') ?_ (k w' (hh.grown hi hg (.inl rfl) ⟨hb.1,by simpa using hb',by rw [fD abq];exact hb.2.2⟩));simp [execOp,hx,hy,Instr.storeAt,Instr.sureAddr,storeVar,fw ht,hl,hc,hr]
theorem bM (hh:Hp w0 H w) {t t':TypeId}{x y:Operand}{i b o n m c sz by':Nat}{ag:Bool}{zc xs vs:List Value}{v:Value} (hx:ev ρ x=.pointer (some ⟨b,o,none⟩)) (hi:H[i]?=some (.row (some ⟨b,0,none⟩) m c t' sz xs))
  (hy:ev ρ y=v) (hc:v.cells=vs.toArray) (ht:dy P t=some (n,ag,by',zc)) (hl:vs.length=n) (ho:o+n≤xs.length) (h1:(vs.all Value.oneCell')=true)
  (k:∀w',Hp w0 (H.set i (.row (some ⟨b,0,none⟩) m c t' sz (bK xs o vs))) w'→WL ro P N ops Q rest ρ w'):WL ro P N ops Q (⟨none,.store t x y,ty,pos,af,none⟩::rest) ρ w:=by
 have hrow:=hh.at_ hi;obtain ⟨hlen,h2⟩:=hrow
 rcases h2 with ⟨h2,_⟩|⟨g,cap,cur,hv,hg,hheap,hmc,hcm,hcur,htake⟩
 ·injection h2 with h2;cases h2
 ·injection hv with hA hn hcap
  injection hA with hA
  injection hA with hA
  subst hA;subst hcap;have hcl:cur.size=cur.toList.length:=by simp
  have hle:m*sz≤c*sz:=acx _ hmc;obtain ⟨w',hr,hb',hgr,hs⟩:=gW (P:=P) (b:=b) (t:=t') (fz:=(0,0)) o vs 0 cur.toList w (by simpa using hheap) (.inr (abD _)) (by rw [←hcl];omega) (by simpa using h1);refine HI rfl rfl (w':=w') ?_ (k w' (hh.grown hi hgr (.inl rfl) ⟨by rw [fD abq];exact hlen,.inr ⟨b,c,(bK cur.toList o vs).toArray,rfl,hg,by simpa using hb',hmc,hcm, ?_, ?_⟩⟩))
  ·simp [execOp,hx,hy,Instr.storeAt,Instr.sureAddr,storeVar,fw ht,hl,hc,hr]
  ·simp only [aei];rw [fD (by rw [←hcl];omega),←hcl,hcur]
  ·exact Ya
theorem cQ (hh:Hp w0 H w) {t e:TypeId}{len sz by':Nat}{ag:Bool}{parts:Array (Nat×Operand)}{ps:List (Nat×Value)}{zc cs:List Value} (ht:P.underlying t=some (.slice e)) (hte:dy P e=some (sz,ag,by',zc))
  (hp:Cm ρ parts.toList=ps) (hzl:zc.length=sz) (hf:lR (fun i=>some (i*sz,sz)) (hZ len zc) ps=some cs) (h0:¬len*sz=0) (hle:len≤1000) (hsl:len*sz≤16777216) (hl:cs.length=len*sz) (hN:d<N)
  (k:∀b w',Hp w0 (.row (some ⟨b,0,none⟩) len len e sz cs::H) w'→WL ro P N ops Q rest (cg ρ d (.slice (some ⟨b,0,none⟩) len len)) w'):WL ro P N ops Q (⟨some d,.buildSlice t len parts,ty,pos,af,none⟩::rest) ρ w:=by
 obtain ⟨z,hz,hzc⟩:=eh (w:=w) hte;refine aM rfl rfl hN (w':=w.alloc (.cells cs.toArray e)) (v:=.slice (some ⟨w.heap.size,0,none⟩) len len) ?_ (k _ _ (hh.Bz e sz len cs hl (by unfold maxLen;omega)));exact Vt
def ru (P:Program) (t:TypeId):Option (List (Nat×Nat)):=
 match P.underlying t with
 |some (.struct fs)=>fs.toList.mapM fun f=>(P.info? f.type).map fun i=>(f.offset,i.size)
 |_=>none
theorem xX {P:Program}{w:World}:∀(l:List Field) (pl:List (Nat×Nat)),(l.mapM fun f=>(P.info? f.type).map fun i=>(f.offset,i.size))=some pl→
  (l.mapM (m:=Sem) fun f=>do pure (f.offset,←sizeOf f.type)).run P w=.ok pl w
 |[],pl,h=>by
  simp at h;subst h;simp
 |f::l,pl,h=>by
  rw [List.mapM_cons] at h
  cases hi:P.info? f.type with
  |none=>simp [hi] at h
  |some i=>
   cases hr:l.mapM (fun f=>(P.info? f.type).map fun i=>(f.offset,i.size)) with
   |none=>simp [hr] at h
   |some pl'=>
    simp [hi,hr] at h;have ih:=xX (w:=w) l pl' hr;have hs:(sizeOf f.type).run P w=.ok i.size w:=by simp [sizeOf,typeInfo,hi]
    rw [List.mapM_cons,Sem.run_bind,Sem.run_bind,hs,Result.andThen_ok,Sem.run_pure,Result.andThen_ok,Sem.run_bind,ih,Result.andThen_ok,Sem.run_pure,h]
theorem ng {dd:Option Nat}{g:Option (Nat×Bool)}{t:TypeId}{n by':Nat}{parts:Array (Nat×Operand)}{ps:List (Nat×Value)}{zc cs:List Value}{pl:List (Nat×Nat)} (hte:dy P t=some (n,true,by',zc))
  (hpl:ru P t=some pl)
  (hp:Cm ρ parts.toList=ps) (hf:lR (pl[·]?) zc ps=some cs):
  (execOp (ev ρ) ⟨dd,.build t parts,ty,pos,af,g⟩).run P w=.ok (.value (.agg cs.toArray)) w:=by
 obtain ⟨z,hz,hzc⟩:=eh (w:=w) hte;unfold ru at hpl;split at hpl
 ·rename_i fs hfs;have h1:=xX (w:=w) _ _ hpl;have h2:(fs.mapM (m:=Sem) fun f=>do pure (f.offset,←sizeOf f.type)).run P w=.ok pl.toArray w:=by
   have e:fs=fs.toList.toArray:=by simp
   rw [e,List.mapM_toArray,Sem.run_map,h1]
   rfl
  have hf':=Bg _ _ _ hf;have hpp:(fun (x:Nat)=>pl.toArray[x]?)=fun x=>pl[x]?:=by funext x;simp
  have hp':=HA parts hp;simp only [execOp,hp',Instr.build,Sem.run_bind,hz,Result.andThen_ok,run_underlying hfs,h2,hzc,hpp,hf',Sem.run_pure]
 ·cases hpl
end
end
section
variable {ro:Mode}
theorem jC (A:Option Addr) (n c:Nat):(Value.slice A n c).ownBlock=A.map (·.block):=by cases A<;>rfl
theorem pd (n:Nat) (z:Value):hZ n [z]=List.replicate n z:=by
 induction n with
 |zero=>rfl
 |succ n ih=>simp [hZ,ih,ad5]
theorem EB {w:World}{ad:Addr}{xs:List Value}{m:Int}{k:Nat}{v:Value} (h:Rd w ad xs) (hx:xs[k]?=some v) (hm:m=(k:Int)):w.cell? (ad.add (m.toNat*1))=some v:=by
 subst hm;simpa using h k v hx
def n5 (l:List UInt8):List Value:=l.map fun c=>.int .u8 c.toNat
theorem xV (l:List UInt8):(n5 l).length=l.length:=by simp [n5]
section
variable {P:Program}{w:World}
theorem rA (base:Nat) (t ty e:TypeId) (i:TypeInfo) (ht:P.underlying t=some (.slice e)) (hi:P.info? e=some i)
  (v:Value) (n:Nat) (xs:List Value) (sz:Nat) (hown:w.ownsRow base e sz v n xs) (c:Nat):(Builtin.append_ #[t,t] ty #[v,.slice none 0 c]).run P w=.ok v w:=by
 rcases hown.2 with ⟨rfl,rfl⟩|⟨g,cap,cur,rfl,_,_,hnc,_⟩
 ·simp [Builtin.append_,run_underlying ht,sizeOf,typeInfo,hi,Builtin.lenOf,Builtin.firstCells]
 ·simp [Builtin.append_,run_underlying ht,sizeOf,typeInfo,hi,Builtin.lenOf,Builtin.firstCells,hnc,storeCells]
theorem yL (base:Nat) (t ty e:TypeId) (sz by':Nat) (ag:Bool) (zc:List Value) (ht:P.underlying t=some (.slice e)) (hte:dy P e=some (sz,ag,by',zc)) (hzl:zc.length=sz) (hsz:0<sz)
  (A:Option Addr) (n c:Nat) (xs:List Value) (hown:w.ownsRow base e sz (.slice A n c) n xs) (B:Option Addr) (m c':Nat) (news:List Value) (hsl:Sl w B m sz news) (h1:∀u∈news,u.oneCell'=true)
  (h63:n+m≤maxLen) (hbytes:(n+m)*by'≤140737488355328) (hbase:base≤w.heap.size):
  ∃A' c2 w',(Builtin.append_ #[t,t] ty #[.slice A n c,.slice B m c']).run P w=.ok (.slice A' (n+m) c2) w'∧w'.ownsRow base e sz (.slice A' (n+m) c2) (n+m) (xs++news)∧
   w.grownBy w' (A.map (·.block))∧(A'.map (·.block)=A.map (·.block)∨A'.map (·.block)=none∨A'.map (·.block)=some w.heap.size):=by
 obtain ⟨i,z,d,hi,hd,hz,hs,hby,hzc,_⟩:=gg hte;have hzs:z.cells.size=sz:=by rw [hzc];simpa using hzl
 have fin:∀(ad:Addr),B=some ad→Rd w ad news→∃A' c2 w',(Builtin.append_ #[t,t] ty #[.slice A n c,.slice B m c']).run P w=.ok (.slice A' (n+m) c2) w'∧w'.ownsRow base e sz (.slice A' (n+m) c2) (n+m) (xs++news)∧
   w.grownBy w' (A.map (·.block))∧(A'.map (·.block)=A.map (·.block)∨A'.map (·.block)=none∨A'.map (·.block)=some w.heap.size):=by
  rintro ad rfl hr;obtain ⟨v',w',hrun,h2,h3,_,h5⟩:=run_append_own_at (P:=P) w base t ty e i z sz by' ht hi hz hs hby hzs hsz (.slice A n c) n xs hown ad m c' news hsl.1 hr h1 h63 hbytes hbase;rw [jC] at h3
  rcases h2.2 with ⟨hv,h0⟩|⟨g,cap,cur,hv,r⟩
  ·subst hv;refine ⟨none,0,w',by rw [hrun,h0],by rw [h0];exact h0 ▸ h2,h3,.inr (.inl rfl)⟩
  ·subst hv;refine ⟨_,_,w',hrun,h2,h3, ?_⟩
   rcases h5 with h5|h5
   ·exact .inl (by rw [←jC _ (n+m) cap,h5,jC])
   ·exact .inr (.inr (by rw [←jC _ (n+m) cap,h5]))
 rcases adw m with h0|h0
 ·subst h0;have hnews:news=[]:=adB (by simpa using hsl.1);subst hnews
  cases B with
  |none=>exact ⟨A,c,w,rA base t ty e i ht hi _ n xs sz hown c',by simpa using hown,World.grownBy.refl _ _,.inl rfl⟩
  |some ad=>exact fin ad rfl (fun j u hu=>by simp at hu)
 ·obtain ⟨ad,hB,hr⟩:=hsl.2 h0;exact fin ad hB hr
theorem yz {A:Option Addr}{n c:Nat}{l:List UInt8} (h:Sl w A n 1 (n5 l)):(Conv.bytesToString (.slice A n c)).run P w=.ok (.string ⟨l.toArray⟩) w:=by
 have hn:l.length=n:=by have:=h.1;rw [xV] at this;omega
 cases A with
 |none=>
  have h0:n=0:=by
   rcases adw n with h0|h0
   ·exact h0
   ·obtain ⟨ad,h1,_⟩:=h.2 h0;cases h1
  have:l=[]:=adB abq;subst this;simp [Conv.bytesToString,ByteArray.empty,ByteArray.emptyWithCapacity]
  rfl
 |some a=>
  have hr:Rd w a (n5 l):=by
   rcases adw n with h0|h0
   ·have:l=[]:=adB abq;subst this;intro j u hu;simp [n5] at hu
   ·obtain ⟨ad,h1,h2⟩:=h.2 h0;injection h1 with h1;subst h1;exact h2
  have e1:n5 l=(l.map fun c:UInt8=>(c.toNat:Int)).map (Value.int .u8):=by simp [n5]
  have hld:=run_loadCells_list (P:=P) w a (n5 l) hr;rw [xV,hn,e1] at hld;rw [run_bytesToString w a n c _ hld];congr 2;have:∀(l:List UInt8) (s:ByteArray),(l.map fun c:UInt8=>(c.toNat:Int)).foldl (fun r n=>r.push (UInt8.ofNat n.toNat)) s=⟨s.data++l.toArray⟩:=by
   intro l
   induction l with
   |nil=>intro s;simp
   |cons c l ih=>
    intro s;simp only [ab8,ad8];rw [ih];have:(s.push (UInt8.ofNat ((c.toNat:Int)).toNat)).data=s.data.push c:=by simp [ByteArray.push]
    rw [this];congr 1;apply Array.ext';simp
  rw [this];congr 1;apply Array.ext';simp [ByteArray.empty,ByteArray.emptyWithCapacity]
  rfl
end
section
variable {P:Program}{N:Nat}{ops:Array Oper}{Q:Kq}{ρ:Rf}{w w0:World}{rest:List Oper}{H:List HE}{d:Nat}{ty:TypeId}{pos:String}{af:Array Edge}
theorem bQ (hh:Hp w0 H w) {t e:TypeId}{s x:Operand}{i n c m c' sz by':Nat}{ag:Bool}{A B:Option Addr}{zc xs news:List Value} (hi:H[i]?=some (.row A n c e sz xs)) (hs:ev ρ s=.slice A n c) (hx:ev ρ x=.slice B m c')
  (hsl:Sl w B m sz news) (ht:P.underlying t=some (.slice e)) (hte:dy P e=some (sz,ag,by',zc)) (hzl:zc.length=sz) (hsz:0<sz) (h1:(news.all Value.oneCell')=true)
  (h63:n+m≤9223372036854775807) (hbytes:(n+m)*by'≤140737488355328) (hN:d<N)
  (k:∀A' c2 w',Hp w0 (H.set i (.row A' (n+m) c2 e sz (xs++news))) w'→WL ro P N ops Q rest (cg ρ d (.slice A' (n+m) c2)) w'):
  WL ro P N ops Q (⟨some d,.call ⟨.builtin .append, #[s,x], #[t,t]⟩,ty,pos,af,none⟩::rest) ρ w:=by
 obtain ⟨A',c2,w',hr,hown,hg,hid⟩:=yL (P:=P) w0.heap.size t ty e sz by' ag zc ht hte hzl hsz A n c xs (hh.at_ hi) B m c' news hsl (by simpa using h1) (by unfold maxLen;omega) hbytes hh.size;refine aM rfl rfl hN (w':=w') (v:=.slice A' (n+m) c2) ?_ (k A' c2 w' (hh.grown hi hg hid hown));simp only [execOp,resolve,invoke,builtin,Sem.run_bind,Sem.run_pure,Result.andThen_ok,List.map_toArray,ab8,acF,hs,hx,hr]
theorem fy (hh:Hp w0 H w) {t e:TypeId}{l cp:Operand}{kl kc:IntKind}{L C:Int}{n sz by':Nat}{ag:Bool}{zc:List Value} (hl:ev ρ l=.int kl L) (hc:ev ρ cp=.int kc C) (hL:L=(n:Int)) (hC:C=(n:Int))
  (ht:P.underlying t=some (.slice e)) (hte:dy P e=some (sz,ag,by',zc)) (hzl:zc.length=sz) (hb:by'*n≤281474976710656) (h63:n≤9223372036854775807) (hN:d<N)
  (k:∀b w',Hp w0 (.row (some ⟨b,0,none⟩) n n e sz (hZ n zc)::H) w'→WL ro P N ops Q rest (cg ρ d (.slice (some ⟨b,0,none⟩) n n)) w'):
  WL ro P N ops Q (⟨some d,.makeSlice t l cp,ty,pos,af,none⟩::rest) ρ w:=by
 obtain ⟨i,z,dd,hi,hd,hz,hs,hby,hzc,_⟩:=gg hte;subst hL;subst hC;obtain ⟨w',hr,hown,hg⟩:=run_make_full (P:=P) w w.heap.size t e i z sz ht hi hz hs kl kc n (by rw [hby];exact hb) (by unfold maxLen;omega) (abD _);have hzz:(madeCells z.cells (n*sz)).toList=hZ n zc:=by
  exact Yf
 rw [hzz] at hown;refine aM rfl rfl hN (w':=w') (v:=.slice (some ⟨w.heap.size,0,none⟩) n n) ?_ (k _ w' (hh.aD ⟨hg.os,hg.tape,hg.output,hg.size,fun j hj=>hg.block j hj (by simp)⟩ hown));simp [execOp,hl,hc,hr]
theorem xH (hh:Hp w0 H w) {t e:TypeId}{sz by':Nat}{ag:Bool}{zc:List Value} (ht:P.underlying t=some (.slice e)) (hte:dy P e=some (sz,ag,by',zc)) (hN:d<N)
  (k:∀b w',Hp w0 (.row (some ⟨b,0,none⟩) 0 0 e sz []::H) w'→WL ro P N ops Q rest (cg ρ d (.slice (some ⟨b,0,none⟩) 0 0)) w'):WL ro P N ops Q (⟨some d,.buildSlice t 0 #[],ty,pos,af,none⟩::rest) ρ w:=by
 refine aM rfl rfl hN (w':=w.alloc (.cells #[] e)) (v:=.slice (some ⟨w.heap.size,0,none⟩) 0 0) ?_ (k _ _ (hh.Bz e sz 0 [] (by simp) (by unfold maxLen;omega)));have e0:Array.range 0= #[]:=rfl;simp [execOp,Instr.buildSlice,run_underlying ht,fw hte,Instr.fill,newRow,e0]
theorem oI {dd:Option Nat}{g:Option (Nat×Bool)}{s t e:TypeId}{x:Operand}{A:Option Addr}{n c:Nat}{l:List UInt8} (hs:P.underlying s=some (.slice e)) (he:P.underlying e=some (.int .u8)) (ht:P.underlying t=some .string)
  (hx:ev ρ x=.slice A n c) (h:Sl w A n 1 (n5 l)):(execOp (ev ρ) ⟨dd,.convert s t x,ty,pos,af,g⟩).run P w=.ok (.value (.string ⟨l.toArray⟩)) w:=by
 simp [execOp,hx,run_convert_bytes_string w s t e A n c hs he ht,yz h]
theorem sH (hh:Hp w0 H w) {t:TypeId}{x:Operand}{s:ByteArray} (ht:P.underlying t=some .string) (hx:ev ρ x=.string s) (hN:d<N)
  (k:∀b w',Hp w0 (.it b s 0::H) w'→WL ro P N ops Q rest (cg ρ d (.pointer (some ⟨b,0,none⟩))) w'):WL ro P N ops Q (⟨some d,.range t x,ty,pos,af,none⟩::rest) ρ w:=by
 refine aM rfl rfl hN (w':=w.alloc (.stringIter s 0)) (v:=.pointer (some ⟨w.heap.size,0,none⟩)) (by simp [execOp,hx,Instr.range,run_underlying ht]) (k _ _ (hh.aD ((Below.refl _ _).alloc (abD _) _) ⟨abD _,heap_alloc_new w _⟩))
theorem sx (hh:Hp w0 H w) {x:Operand}{i b p:Nat}{s:ByteArray} (hi:H[i]?=some (.it b s p)) (hx:ev ρ x=.pointer (some ⟨b,0,none⟩)) (hp:¬p<s.size) (hN:d<N)
  (k:WL ro P N ops Q rest (cg ρ d (.tuple #[.bool false])) w):WL ro P N ops Q (⟨some d,.next x true,ty,pos,af,none⟩::rest) ρ w:=by
 have h1:=(hh.at_ hi).2;refine aM rfl rfl hN (w':=w) (v:=.tuple #[.bool false]) ?_ k;simp [execOp,hx,Instr.next,getObj,Sem.run,h1,hp]
theorem rM (hh:Hp w0 H w) {x:Operand}{i b p:Nat}{s:ByteArray}{c:UInt8} (hi:H[i]?=some (.it b s p)) (hx:ev ρ x=.pointer (some ⟨b,0,none⟩)) (hc:s.data.toList[p]?=some c) (h128:c.toNat<128) (hN:d<N)
  (k:∀w',Hp w0 (H.set i (.it b s (p+1))) w'→WL ro P N ops Q rest (cg ρ d (.tuple #[.bool true,.int .i64 p,.int .i32 c.toNat])) w'):WL ro P N ops Q (⟨some d,.next x true,ty,pos,af,none⟩::rest) ρ w:=by
 have h1:=(hh.at_ hi).2;obtain ⟨hlt,hcc⟩:=abM.1 hc;have hlt':p<s.size:=by simpa using hlt
 have hget:s.get! p=c:=by
  have:s.get! p=s.data[p]! :=rfl;rw [this,getElem!_pos s.data p hlt'];simpa using hcc
 have hdec:Utf8.decode s p=(c.toNat,1):=by
  unfold Utf8.decode;simp only [acY,hget];rw [abx h128]
 let w':World:={ w with heap:=w.heap.setIfInBounds b (.stringIter s (p+1)) }
 have hb:=fg (hh.at_ hi) (b:=b) rfl;have hg:w.grownBy w' (some b):=⟨rfl,rfl,rfl,by simp [w'],fun k _ hne=>by
  show (w.heap.setIfInBounds b _)[k]?=_;rw [Array.getElem?_setIfInBounds_ne (fun e=>hne (by rw [e]))]⟩
 refine aM rfl rfl hN (w':=w') (v:=.tuple #[.bool true,.int .i64 p,.int .i32 c.toNat]) ?_ (k w' (hh.grown hi hg (.inl rfl) ⟨hb.1, ?_⟩))
 ·simp [execOp,hx,Instr.next,getObj,setObj,Sem.run,h1,hlt',hdec,goInt,w']
 ·show (w.heap.setIfInBounds b _)[b]?=_;simp [hb.2]
end
end
class UK (k:IntKind) (b:outParam Nat) (M:outParam Nat):Prop where
 bits:k.bits=b
 sgn:k.signed=false
 pow:2^b=M
instance:UK .u8 8 256:=⟨rfl,rfl,rfl⟩
instance:UK .u16 16 65536:=⟨rfl,rfl,rfl⟩
instance:UK .u32 32 4294967296:=⟨rfl,rfl,rfl⟩
instance:UK .u64 64 18446744073709551616:=⟨rfl,rfl,rfl⟩
theorem UK.wrap {k:IntKind}{b M:Nat} [h:UK k b M] (n:Nat):k.wrap (n:Int)=((n % M:Nat):Int):=by
 unfold IntKind.wrap;have hM:(2:Int)^k.bits=(M:Int):=by rw [h.bits,←h.pow];simp
 simp only [h.sgn,hM,aeB];simp
theorem UK.sc {k:IntKind}{b M:Nat} [UK k b M] {n:Nat} (hn:n<M):k.wrap (n:Int)=(n:Int):=by rw [UK.wrap,aci hn]
theorem UK.wrap_add {k:IntKind}{b M:Nat} [h:UK k b M] (z:Int):k.wrap (z+M)=k.wrap z:=by
 unfold IntKind.wrap;have hM:(2:Int)^k.bits=(M:Int):=by rw [h.bits,←h.pow];simp
 simp [hM]
section
variable {P:Program}{ρ:Rf}{w:World}{d:Option Nat}{ty:TypeId}{pos:String}{af:Array Edge}{g:Option (Nat×Bool)}
section unats
variable {t u:TypeId}{x y:Operand}{k:IntKind}{q M:Nat}{a b:Nat}
theorem Vs [UK k q M] (hx:ev ρ x=.int k (a:Int)) (hy:ev ρ y=.int k (b:Int)):(execOp (ev ρ) ⟨d,.binOp .add t x y u,ty,pos,af,g⟩).run P w=.ok (.value (.int k (((a+b) % M:Nat):Int))) w:=by
 rw [UH hx hy,←acZ,UK.wrap]
theorem Wp [UK k q M] (hx:ev ρ x=.int k (a:Int)) (hy:ev ρ y=.int k (b:Int)) (hb:b≤M):(execOp (ev ρ) ⟨d,.binOp .sub t x y u,ty,pos,af,g⟩).run P w=.ok (.value (.int k (((a+M-b) % M:Nat):Int))) w:=by
 rw [Ul hx hy,←UK.wrap (k:=k)];have h:((a+M-b:Nat):Int)=(a:Int)-b+M:=abq;rw [h,UK.wrap_add]
theorem UR [UK k q M] (hx:ev ρ x=.int k (a:Int)) (hy:ev ρ y=.int k (b:Int)):(execOp (ev ρ) ⟨d,.binOp .mul t x y u,ty,pos,af,g⟩).run P w=.ok (.value (.int k (((a*b) % M:Nat):Int))) w:=by
 rw [S3 hx hy,←acK,UK.wrap]
theorem Pv [UK k q M] (hx:ev ρ x=.int k (a:Int)) (hy:ev ρ y=.int k (b:Int)) (hb:0<b) (ha:a<M):(execOp (ev ρ) ⟨d,.binOp .quo t x y u,ty,pos,af,g⟩).run P w=.ok (.value (.int k ((a/b:Nat):Int))) w:=by
 rw [SZ hx hy abq,←Int.ofNat_tdiv,UK.sc (acB (adM _ _) ha)]
theorem Ni (hx:ev ρ x=.int k (a:Int)) (hy:ev ρ y=.int k (b:Int)) (hb:0<b):(execOp (ev ρ) ⟨d,.binOp .rem t x y u,ty,pos,af,g⟩).run P w=.ok (.value (.int k ((a % b:Nat):Int))) w:=by
 rw [UC hx hy abq,←Int.ofNat_tmod]
theorem pP (n:Nat) (a:Nat):BitVec.ofInt n (a:Int)=BitVec.ofNat n a:=by simp
theorem Yq [h:UK k q M] (hx:ev ρ x=.int k (a:Int)) (hy:ev ρ y=.int k (b:Int)) (ha:a<M) (hb:b<M):(execOp (ev ρ) ⟨d,.binOp .or t x y u,ty,pos,af,g⟩).run P w=.ok (.value (.int k ((a|||b:Nat):Int))) w:=by
 rw [Zk hx hy,pP,pP,BitVec.toNat_or,BitVec.toNat_ofNat,BitVec.toNat_ofNat,h.bits,h.pow,aci ha,aci hb,UK.sc];rw [←h.pow] at ha hb ⊢;exact Nat.or_lt_two_pow ha hb
theorem UY [h:UK k q M] (hx:ev ρ x=.int k (a:Int)) (hy:ev ρ y=.int k (b:Int)) (ha:a<M) (hb:b<M):(execOp (ev ρ) ⟨d,.binOp .and t x y u,ty,pos,af,g⟩).run P w=.ok (.value (.int k ((a &&& b:Nat):Int))) w:=by
 rw [Uh hx hy,pP,pP,BitVec.toNat_and,BitVec.toNat_ofNat,BitVec.toNat_ofNat,h.bits,h.pow,aci ha,aci hb,UK.sc];exact acB Nat.and_le_left ha
theorem wi [h:UK k q M] {k':IntKind}{s:Int} (hx:ev ρ x=.int k (a:Int)) (hy:ev ρ y=.int k' s) (hs:0≤s∧s≤q):(execOp (ev ρ) ⟨d,.binOp .shl t x y u,ty,pos,af,g⟩).run P w=.ok (.value (.int k (((a*2^s.toNat) % M:Nat):Int))) w:=by
 have e:(a:Int)*2^(min s.toNat k.bits)=((a*2^s.toNat:Nat):Int):=by
  rw [h.bits,acQ abq,acK,aeD];rfl
 rw [TT hx hy hs.1,e,UK.wrap]
theorem Fz [h:UK k q M] {k':IntKind}{s:Int} (hx:ev ρ x=.int k (a:Int)) (hy:ev ρ y=.int k' s) (hs:0≤s∧s≤q):(execOp (ev ρ) ⟨d,.binOp .shr t x y u,ty,pos,af,g⟩).run P w=.ok (.value (.int k ((a/2^s.toNat:Nat):Int))) w:=by
 rw [Uo hx hy hs.1,h.bits,acQ abq,afh _ (Int.le_of_lt (Int.pow_pos abq))];simp
theorem RE [UK k q M] {k':IntKind}{s m:Nat} (hx:ev ρ x=.int k (a:Int)) (hy:ev ρ y=.int k' (s:Int)) (hs:s≤q) (hm:2^s=m):(execOp (ev ρ) ⟨d,.binOp .shr t x y u,ty,pos,af,g⟩).run P w=.ok (.value (.int k ((a/m:Nat):Int))) w:=by
 rw [Fz hx hy abq,←hm];rfl
theorem UZ [h:UK k q M] (hx:ev ρ x=.int k (a:Int)) (ha:a≤M):(execOp (ev ρ) ⟨d,.unOp .neg t x,ty,pos,af,g⟩).run P w=.ok (.value (.int k (((M-a) % M:Nat):Int))) w:=by
 rw [TE hx,←UK.wrap (k:=k)];have e:((M-a:Nat):Int)= -(a:Int)+M:=abq;rw [e,UK.wrap_add]
theorem RI [UK k q M] {s t:TypeId}{k':IntKind}{sd:TypeDesc} (hs:P.underlying s=some sd) (ht:P.underlying t=some (.int k)) (hx:ev ρ x=.int k' (a:Int)):
  (execOp (ev ρ) ⟨d,.convert s t x,ty,pos,af,g⟩).run P w=.ok (.value (.int k ((a % M:Nat):Int))) w:=by
 rw [nQ hs ht hx,UK.wrap]
theorem xx [UK k q M] {s t:TypeId}{k':IntKind}{sd:TypeDesc} (hs:P.underlying s=some sd) (ht:P.underlying t=some (.int k)) (hx:ev ρ x=.int k' (a:Int)) (ha:a<M):
  (execOp (ev ρ) ⟨d,.convert s t x,ty,pos,af,g⟩).run P w=.ok (.value (.int k (a:Int))) w:=by
 rw [nQ hs ht hx,UK.sc ha]
end unats
section ints
variable {t u:TypeId}{x y:Operand}{k:IntKind}{a b:Int}
theorem IP (hx:ev ρ x=.int k a) (hy:ev ρ y=.int k b):(execOp (ev ρ) ⟨d,.binOp .lss t x y u,ty,pos,af,g⟩).run P w=.ok (.value (.bool (decide (a<b)))) w:=by
 by_cases h:a<b
 ·rw [SG hx hy h,abQ h]
 ·rw [QN hx hy h,abR h]
theorem Im (hx:ev ρ x=.int k a) (hy:ev ρ y=.int k b):(execOp (ev ρ) ⟨d,.binOp .leq t x y u,ty,pos,af,g⟩).run P w=.ok (.value (.bool (decide (a≤b)))) w:=by
 by_cases h:a≤b
 ·rw [Qi hx hy h,abQ h]
 ·rw [QK hx hy h,abR h]
theorem H0 (hx:ev ρ x=.int k a) (hy:ev ρ y=.int k b):(execOp (ev ρ) ⟨d,.binOp .gtr t x y u,ty,pos,af,g⟩).run P w=.ok (.value (.bool (decide (b<a)))) w:=by
 by_cases h:b<a
 ·rw [Qv hx hy h,abQ h]
 ·rw [Si hx hy h,abR h]
theorem Qo (hx:ev ρ x=.int k a) (hy:ev ρ y=.int k b):(execOp (ev ρ) ⟨d,.binOp .geq t x y u,ty,pos,af,g⟩).run P w=.ok (.value (.bool (decide (b≤a)))) w:=by
 by_cases h:b≤a
 ·rw [Q7 hx hy h,abQ h]
 ·rw [Rq hx hy h,abR h]
theorem Ra (hx:ev ρ x=.int k a) (hy:ev ρ y=.int k b):(execOp (ev ρ) ⟨d,.binOp .neq t x y u,ty,pos,af,g⟩).run P w=.ok (.value (.bool (decide (a≠b)))) w:=by
 by_cases h:a=b
 ·rw [Sf hx hy h,abR (by simpa using h)]
 ·rw [Sm hx hy h,abQ h]
end ints
section bools
variable {t u:TypeId}{x y:Operand}{a b:Bool}
theorem Sc (ht:P.underlying t=some .bool) (hx:ev ρ x=.bool a) (hy:ev ρ y=.bool b) (h:a=b):(execOp (ev ρ) ⟨d,.binOp .eql t x y u,ty,pos,af,g⟩).run P w=.ok (.value (.bool true)) w:=by
 rw [wD ht hx hy,h,beq_self_eq_true]
theorem RP (ht:P.underlying t=some .bool) (hx:ev ρ x=.bool a) (hy:ev ρ y=.bool b) (h:¬a=b):(execOp (ev ρ) ⟨d,.binOp .eql t x y u,ty,pos,af,g⟩).run P w=.ok (.value (.bool false)) w:=by
 rw [wD ht hx hy,beq_false_of_ne h]
theorem Rv (ht:P.underlying t=some .bool) (hx:ev ρ x=.bool a) (hy:ev ρ y=.bool b) (h:¬a=b):(execOp (ev ρ) ⟨d,.binOp .neq t x y u,ty,pos,af,g⟩).run P w=.ok (.value (.bool true)) w:=by
 rw [nB ht hx hy,bne,beq_false_of_ne h];rfl
theorem R8 (ht:P.underlying t=some .bool) (hx:ev ρ x=.bool a) (hy:ev ρ y=.bool b) (h:a=b):(execOp (ev ρ) ⟨d,.binOp .neq t x y u,ty,pos,af,g⟩).run P w=.ok (.value (.bool false)) w:=by
 rw [nB ht hx hy,bne,h,beq_self_eq_true];rfl
end bools
theorem iC {t e:TypeId}{x i:Operand}{ad:Addr}{n c sz k:Nat}{kk:IntKind}{m:Int} (ht:P.underlying t=some (.slice e)) (hsz:(P.info? e).map (·.size)=some sz) (hx:ev ρ x=.slice (some ad) n c) (hi:ev ρ i=.int kk m)
  (hm:m=(k:Int)) (h1:k<n):(execOp (ev ρ) ⟨d,.indexAddr t x i,ty,pos,af,g⟩).run P w=.ok (.value (.pointer (some (ad.add (k*sz))))) w:=by
 rw [ep ht hsz hx hi abq abq,hm];rfl
theorem Hd {t e:TypeId}{x i:Operand}{b o n c sz k:Nat}{kk:IntKind}{m:Int} (ht:P.underlying t=some (.slice e)) (hsz:(P.info? e).map (·.size)=some sz) (hx:ev ρ x=.slice (some ⟨b,o,none⟩) n c) (hi:ev ρ i=.int kk m)
  (hm:m=(k:Int)) (h1:k<n):(execOp (ev ρ) ⟨d,.indexAddr t x i,ty,pos,af,g⟩).run P w=.ok (.value (.pointer (some ⟨b,o+k*sz,none⟩))) w:=by
 rw [ep ht hsz hx hi abq abq,hm,eN];rfl
theorem Hk {t e:TypeId}{x i:Operand}{ad:Addr}{n sz k:Nat}{kk:IntKind}{m:Int} (ht:P.underlying t=some (.array n e)) (hsz:(P.info? e).map (·.size)=some sz) (hx:ev ρ x=.pointer (some ad)) (hi:ev ρ i=.int kk m)
  (hm:m=(k:Int)) (h1:k<n):(execOp (ev ρ) ⟨d,.indexAddr t x i,ty,pos,af,g⟩).run P w=.ok (.value (.pointer (some (ad.add (k*sz))))) w:=by
 obtain ⟨i,hi1,hi2⟩:=adA.1 hsz;have h2:(k:Int)<n:=abq;subst hm;simp [execOp,hx,hi,Instr.indexAt,asIntOf,run_underlying ht,sizeOf,typeInfo,hi1,hi2,Instr.sureAddr,h1]
theorem Ct {t e:TypeId}{x hi:Operand}{A:Option Addr}{n c h sz:Nat}{k:IntKind}{m:Int} (ht:P.underlying t=some (.slice e)) (hsz:(P.info? e).map (·.size)=some sz) (hx:ev ρ x=.slice A n c) (hhi:ev ρ hi=.int k m)
  (hm:m=(h:Int)) (h2:h≤c):(execOp (ev ρ) ⟨d,.slice t x none (some hi) none,ty,pos,af,g⟩).run P w=.ok (.value (.slice A h c)) w:=by
 rw [jf (lo:=none) (hi:=some hi) (l:=0) (h:=h) ht hsz hx rfl ⟨k,m,hhi,hm⟩ (abB _) h2];congr 3
 cases A with
 |none=>simp
 |some ad=>simp [Addr.add]
theorem Hw {t e:TypeId}{x lo:Operand}{b o n c l sz:Nat}{k:IntKind}{m:Int} (ht:P.underlying t=some (.slice e)) (hsz:(P.info? e).map (·.size)=some sz) (hx:ev ρ x=.slice (some ⟨b,o,none⟩) n c) (hlo:ev ρ lo=.int k m)
  (hm:m=(l:Int)) (h1:l≤n) (h2:n≤c) (h3:l<c):(execOp (ev ρ) ⟨d,.slice t x (some lo) none none,ty,pos,af,g⟩).run P w=.ok (.value (.slice (some ⟨b,o+l*sz,none⟩) (n-l) (c-l))) w:=by
 rw [jf (lo:=some lo) (hi:=none) (l:=l) (h:=n) ht hsz hx ⟨k,m,hlo,hm⟩ rfl h1 h2,abw abq];simp only [adr,eN]
theorem ER {t e:TypeId}{x lo:Operand}{ad:Addr}{n c l sz:Nat}{k:IntKind}{m:Int} (ht:P.underlying t=some (.slice e)) (hsz:(P.info? e).map (·.size)=some sz) (hx:ev ρ x=.slice (some ad) n c) (hlo:ev ρ lo=.int k m)
  (hm:m=(l:Int)) (h1:l≤n) (h2:n≤c) (h3:l<c):(execOp (ev ρ) ⟨d,.slice t x (some lo) none none,ty,pos,af,g⟩).run P w=.ok (.value (.slice (some (ad.add (l*sz))) (n-l) (c-l))) w:=by
 rw [jf (lo:=some lo) (hi:=none) (l:=l) (h:=n) ht hsz hx ⟨k,m,hlo,hm⟩ rfl h1 h2,abw abq]
 rfl
end
theorem Rd.vc {w:World}{ad:Addr}{xs:List Value}{k:Nat}{v:Value} (h:Rd w ad xs) (hx:xs[k]?=some v):w.cell? (ad.add (k*1))=some v:=by
 rw [abZ];exact h k v hx
def cm (l:List Nat):List Value:=l.map fun (d:Nat)=>.int .u64 (d:Int)
theorem aV (l:List Nat):(cm l).length=l.length:=by simp [cm]
theorem dZ {l:List Nat}{k d:Nat} (h:l[k]?=some d):(cm l)[k]?=some (.int .u64 (d:Int)):=by simp [cm,h]
theorem gP (l:List Nat) (k d:Nat):(cm l).set k (.int .u64 (d:Int))=cm (l.set k d):=by simp [cm,adz]
theorem DW (a b:List Nat):cm (a++b)=cm a++cm b:=by simp [cm]
theorem zZ (a:List Nat) (k:Nat):cm (a.take k)=(cm a).take k:=by simp [cm,List.map_take]
theorem yZ (a:List Nat) (k:Nat):cm (a.drop k)=(cm a).drop k:=by simp [cm,aeq]
theorem cn (l:List Nat):((cm l).all Value.oneCell')=true:=by simp [cm,Value.oneCell']
theorem lH (n:Nat):hZ n [Value.int .u64 0]=cm (List.replicate n 0):=by rw [pd];simp [cm]
def ie (l:List Nat):List Value:=l.map fun (d:Nat)=>.int .u8 (d:Int)
theorem cO (l:List Nat):(ie l).length=l.length:=by simp [ie]
theorem qL {l:List Nat}{k d:Nat} (h:l[k]?=some d):(ie l)[k]?=some (.int .u8 (d:Int)):=by simp [ie,h]
theorem rP (l:List Nat) (k d:Nat):(ie l).set k (.int .u8 (d:Int))=ie (l.set k d):=by simp [ie,adz]
theorem vW (a b:List Nat):ie (a++b)=ie a++ie b:=by simp [ie]
theorem Du (a:List Nat) (k:Nat):ie (a.take k)=(ie a).take k:=by simp [ie,List.map_take]
theorem cS (l:List Nat):((ie l).all Value.oneCell')=true:=by simp [ie,Value.oneCell']
theorem rV (n:Nat):hZ n [Value.int .u8 0]=ie (List.replicate n 0):=by rw [pd];simp [ie]
theorem Lr {l:List Nat} (h:∀d∈l,d<256):ie l=n5 (l.map UInt8.ofNat):=by
 rw [ie,n5,ack];apply acT;intro d hd;have:=h d hd;simp only [Function.comp,ae3];congr 2;omega
theorem Sl.Cn {w:World}{ad:Addr}{n:Nat}{ys:List Nat}{k d:Nat} (h:Sl w (some ad) n 1 (cm ys)) (hd:ys[k]?=some d):w.cell? (ad.add (k*1))=some (.int .u64 (d:Int)):=by
 have hl:=h.1;have hk:=(abM.1 hd).1;rw [aV] at hl;obtain ⟨ad',he,hr⟩:=h.2 abq;injection he with he
 subst he;exact hr.vc (dZ hd)
theorem Bv {pre done r post:List Nat}{x:Nat}:(pre++(done++x::r)++post)[pre.length+done.length]?=some x:=by
 rw [acb,acP abq,acb,acP abq];simp
theorem pQ {pre done r post:List Nat}{x y:Nat}:(pre++(done++x::r)++post).set (pre.length+done.length) y=pre++((done++[y])++r)++post:=by
 rw [acb,adS _ _ abq,acb,adS _ _ abq];simp
theorem cu {cs:List Value}{o:Nat}{v:Value} (h:o<cs.length):bK cs o [v]=cs.set o v:=by
 unfold bK;rw [aeY,abx h];simp
theorem Hp.front {w0 w:World}{H:List HE}{x:HE} (h:Hp w0 H w) (i:Nat) (hi:H[i]?=some x):Hp w0 (x::H.eraseIdx i) w:=by
 have hp:H.Perm (x::H.eraseIdx i):=by
  clear h
  induction H generalizing i with
  |nil=>simp at hi
  |cons y H ih=>
   cases i with
   |zero=>simp at hi;subst hi;simp
   |succ i=>
    simp only [aen] at hi;simp only [List.eraseIdx_cons_succ];exact ((ih i hi).cons y).trans (List.Perm.swap x y _)
 exact ⟨h.below,fun y hy=>h.own y (hp.mem_iff.2 hy),(hp.filterMap _).nodup_iff.1 h.nd⟩
theorem Hp.BL {w0 w:World}{H:List HE}{A:Option Addr}{n c:Nat}{t:TypeId}{sz:Nat}{xs:List Value} (h:Hp w0 (.row A n c t sz xs::H) w) {k:Nat} (hk:k≤n):Hp w0 (.row A k c t sz (xs.take (k*sz))::H) w:=by
 refine ⟨h.below,fun y hy=> ?_,h.nd⟩
 rcases abO.1 hy with rfl|hy
 ·have h1:w.ownsRow w0.heap.size t sz (.slice A n c) n xs:=h.own _ abF;obtain ⟨h2,h3⟩:=h1;have hkn:k*sz≤n*sz:=acx _ hk;refine ⟨by rw [abP];omega, ?_⟩
  rcases h3 with ⟨h3,h4⟩|⟨g,cap,cur,hv,hb,hg,h4,h5,h6,h7⟩
  ·injection h3 with h5 h6 h7
   subst h5 h6 h7;exact .inl ⟨by rw [show k=0 by omega],abq⟩
  ·injection hv with h8 h9 h10
   subst h8;refine .inr ⟨g,cap,cur,by rw [h10],hb,hg,abq,h5,h6, ?_⟩;rw [←h7,List.take_take,acQ hkn]
 ·exact h.own y (abN _ hy)
theorem Hp.fh {w0 w:World}{H:List HE}{A:Option Addr}{n c:Nat}{t:TypeId}{sz:Nat}{xs:List Value}{i:Nat} (h:Hp w0 H w) (hi:H[i]?=some (.row A n c t sz xs)):n≤c:=by
 have h1:w.ownsRow w0.heap.size t sz (.slice A n c) n xs:=h.at_ hi
 rcases h1.2 with ⟨h3,h4⟩|⟨g,cap,cur,hv,hb,hg,h4,h5,h6,h7⟩
 ·omega
 ·injection hv with h8 h9 h10
  omega
section
variable {ro:Mode}
section
variable {P:Program}{N:Nat}{ops:Array Oper}{Q:Kq}{ρ:Rf}{w w0:World}{rest:List Oper}{H:List HE}{d:Nat}{ty:TypeId}{pos:String}{af:Array Edge}
theorem mX {x:Operand}{v:Value} (hx:ev ρ x=v) (hN:d<N) (kk:WL ro P N ops Q rest (cg ρ d v) w):
  WL ro P N ops Q (⟨some d,.move x,ty,pos,af,none⟩::rest) ρ w:=aM rfl rfl hN (ek hx) kk
theorem jN {x:Operand}{v:Value} (hx:ev ρ x=v) (hN:d<N) (kk:WL ro P N ops Q rest (cg ρ d v) w):
  WL ro P N ops Q (⟨some d,.assign x,ty,pos,af,none⟩::rest) ρ w:=aM rfl rfl hN (EY hx) kk
theorem N3 {c a b:Operand}{v:Value} (hc:ev ρ c=.bool true) (hx:ev ρ a=v) (hN:d<N) (kk:WL ro P N ops Q rest (cg ρ d v) w):
  WL ro P N ops Q (⟨some d,.pick c a b,ty,pos,af,none⟩::rest) ρ w:=aM rfl rfl hN (ES hc hx) kk
theorem M6 {c a b:Operand}{v:Value} (hc:ev ρ c=.bool false) (hx:ev ρ b=v) (hN:d<N) (kk:WL ro P N ops Q rest (cg ρ d v) w):
  WL ro P N ops Q (⟨some d,.pick c a b,ty,pos,af,none⟩::rest) ρ w:=aM rfl rfl hN (Fj hc hx) kk
section
variable {t u:TypeId}{x y:Operand}{k:IntKind}{a b:Int}
theorem LY {k':IntKind} (hx:ev ρ x=.int k a) (hy:ev ρ y=.int k' b) (hb:0≤b) (hN:d<N) (kk:WL ro P N ops Q rest (cg ρ d (.int k (k.wrap (a*2^(min b.toNat k.bits))))) w):
  WL ro P N ops Q (⟨some d,.binOp .shl t x y u,ty,pos,af,none⟩::rest) ρ w:=aM rfl rfl hN (TT hx hy hb) kk
theorem T4 {k':IntKind} (hx:ev ρ x=.int k a) (hy:ev ρ y=.int k' b) (hb:0≤b) (hN:d<N) (kk:WL ro P N ops Q rest (cg ρ d (.int k (a.fdiv (2^(min b.toNat k.bits))))) w):
  WL ro P N ops Q (⟨some d,.binOp .shr t x y u,ty,pos,af,none⟩::rest) ρ w:=aM rfl rfl hN (Uo hx hy hb) kk
theorem JR (hx:ev ρ x=.int k a) (hy:ev ρ y=.int k b) (hN:d<N) (kk:WL ro P N ops Q rest (cg ρ d (.bool (decide (a=b)))) w):
  WL ro P N ops Q (⟨some d,.binOp .eql t x y u,ty,pos,af,none⟩::rest) ρ w:=aM rfl rfl hN (JM hx hy) kk
theorem Wl (hx:ev ρ x=.int .i64 a) (hy:ev ρ y=.int .i64 b) (h1: -9223372036854775808≤a+b) (h2:a+b≤9223372036854775807) (hN:d<N) (kk:WL ro P N ops Q rest (cg ρ d (.int .i64 (a+b))) w):
  WL ro P N ops Q (⟨some d,.binOp .add t x y u,ty,pos,af,none⟩::rest) ρ w:=aM rfl rfl hN (M3 hx hy h1 h2) kk
theorem Vh (hx:ev ρ x=.int .i64 a) (hy:ev ρ y=.int .i64 b) (h1: -9223372036854775808≤a-b) (h2:a-b≤9223372036854775807) (hN:d<N) (kk:WL ro P N ops Q rest (cg ρ d (.int .i64 (a-b))) w):
  WL ro P N ops Q (⟨some d,.binOp .sub t x y u,ty,pos,af,none⟩::rest) ρ w:=aM rfl rfl hN (P0 hx hy h1 h2) kk
theorem UT (hx:ev ρ x=.int .i64 a) (hy:ev ρ y=.int .i64 b) (h1: -9223372036854775808≤a*b) (h2:a*b≤9223372036854775807) (hN:d<N) (kk:WL ro P N ops Q rest (cg ρ d (.int .i64 (a*b))) w):
  WL ro P N ops Q (⟨some d,.binOp .mul t x y u,ty,pos,af,none⟩::rest) ρ w:=aM rfl rfl hN (Ok hx hy h1 h2) kk
theorem Mk (hx:ev ρ x=.int .i64 a) (h1: -9223372036854775808≤ -a) (h2: -a≤9223372036854775807) (hN:d<N) (kk:WL ro P N ops Q rest (cg ρ d (.int .i64 (-a))) w):
  WL ro P N ops Q (⟨some d,.unOp .neg t x,ty,pos,af,none⟩::rest) ρ w:=aM rfl rfl hN (Mt hx h1 h2) kk
theorem Gs (hx:ev ρ x=.int .i64 a) (hy:ev ρ y=.int .i64 b) (ha:0≤a) (hb:0<b) (h2:a≤9223372036854775807) (hN:d<N) (kk:WL ro P N ops Q rest (cg ρ d (.int .i64 (a/b))) w):
  WL ro P N ops Q (⟨some d,.binOp .quo t x y u,ty,pos,af,none⟩::rest) ρ w:=aM rfl rfl hN (xe hx hy ha hb h2) kk
theorem OC (hx:ev ρ x=.int .i64 a) (hy:ev ρ y=.int .i64 b) (ha:0≤a) (hb:0<b) (hN:d<N) (kk:WL ro P N ops Q rest (cg ρ d (.int .i64 (a % b))) w):
  WL ro P N ops Q (⟨some d,.binOp .rem t x y u,ty,pos,af,none⟩::rest) ρ w:=aM rfl rfl hN (qY hx hy ha hb) kk
end
theorem Yn {t:TypeId}{x:Operand}{b:Bool} (hx:ev ρ x=.bool b) (hN:d<N) (kk:WL ro P N ops Q rest (cg ρ d (.bool !b)) w):
  WL ro P N ops Q (⟨some d,.unOp .not t x,ty,pos,af,none⟩::rest) ρ w:=aM rfl rfl hN (UA hx) kk
section
variable {t u:TypeId}{x y:Operand}{a b:Bool}
theorem q8 (ht:P.underlying t=some .bool) (hx:ev ρ x=.bool a) (hy:ev ρ y=.bool b) (hN:d<N) (kk:WL ro P N ops Q rest (cg ρ d (.bool (a !=b))) w):
  WL ro P N ops Q (⟨some d,.binOp .neq t x y u,ty,pos,af,none⟩::rest) ρ w:=aM rfl rfl hN (nB ht hx hy) kk
end
section
variable {t u:TypeId}{x y:Operand}{a b:ByteArray}
theorem jv (hx:ev ρ x=.string a) (hy:ev ρ y=.string b) (h:a=b) (hN:d<N) (kk:WL ro P N ops Q rest (cg ρ d (.bool true)) w):
  WL ro P N ops Q (⟨some d,.binOp .eql t x y u,ty,pos,af,none⟩::rest) ρ w:=aM rfl rfl hN (CI hx hy h) kk
theorem ju (hx:ev ρ x=.string a) (hy:ev ρ y=.string b) (h:¬a=b) (hN:d<N) (kk:WL ro P N ops Q rest (cg ρ d (.bool false)) w):
  WL ro P N ops Q (⟨some d,.binOp .eql t x y u,ty,pos,af,none⟩::rest) ρ w:=aM rfl rfl hN (D5 hx hy h) kk
theorem jm (hx:ev ρ x=.string a) (hy:ev ρ y=.string b) (h:¬a=b) (hN:d<N) (kk:WL ro P N ops Q rest (cg ρ d (.bool true)) w):
  WL ro P N ops Q (⟨some d,.binOp .neq t x y u,ty,pos,af,none⟩::rest) ρ w:=aM rfl rfl hN (Dc hx hy h) kk
theorem jr (hx:ev ρ x=.string a) (hy:ev ρ y=.string b) (h:a=b) (hN:d<N) (kk:WL ro P N ops Q rest (cg ρ d (.bool false)) w):
  WL ro P N ops Q (⟨some d,.binOp .neq t x y u,ty,pos,af,none⟩::rest) ρ w:=aM rfl rfl hN (DV hx hy h) kk
theorem td (hx:ev ρ x=.string a) (hy:ev ρ y=.string b) (hN:d<N) (kk:WL ro P N ops Q rest (cg ρ d (.bool (Op.bytesLess a.toList b.toList))) w):
  WL ro P N ops Q (⟨some d,.binOp .lss t x y u,ty,pos,af,none⟩::rest) ρ w:=aM rfl rfl hN (KR hx hy) kk
theorem LD (hx:ev ρ x=.string a) (hy:ev ρ y=.string b) (hN:d<N) (kk:WL ro P N ops Q rest (cg ρ d (.bool !(Op.bytesLess a.toList b.toList||a.toList==b.toList))) w):
  WL ro P N ops Q (⟨some d,.binOp .gtr t x y u,ty,pos,af,none⟩::rest) ρ w:=aM rfl rfl hN (JW hx hy) kk
theorem Ay (hx:ev ρ x=.string a) (hy:ev ρ y=.string b) (hN:d<N) (kk:WL ro P N ops Q rest (cg ρ d (.bool !(Op.bytesLess a.toList b.toList))) w):
  WL ro P N ops Q (⟨some d,.binOp .geq t x y u,ty,pos,af,none⟩::rest) ρ w:=aM rfl rfl hN (Lx hx hy) kk
end
theorem GU {s t:TypeId}{x:Operand}{k k':IntKind}{a:Int}{sd:TypeDesc} (hs:P.underlying s=some sd) (ht:P.underlying t=some (.int k)) (hx:ev ρ x=.int k' a) (hN:d<N) (kk:WL ro P N ops Q rest (cg ρ d (.int k (k.wrap a))) w):
  WL ro P N ops Q (⟨some d,.convert s t x,ty,pos,af,none⟩::rest) ρ w:=aM rfl rfl hN (nQ hs ht hx) kk
theorem wZ {s t:TypeId}{x:Operand}{k':IntKind}{a:Int}{sd:TypeDesc} (hs:P.underlying s=some sd) (ht:P.underlying t=some (.int .i64)) (hx:ev ρ x=.int k' a) (h1: -9223372036854775808≤a) (h2:a≤9223372036854775807) (hN:d<N) (kk:WL ro P N ops Q rest (cg ρ d (.int .i64 a)) w):
  WL ro P N ops Q (⟨some d,.convert s t x,ty,pos,af,none⟩::rest) ρ w:=aM rfl rfl hN (yn hs ht hx h1 h2) kk
theorem KZ {x:Operand}{i:Nat}{vs:List Value}{v:Value} (hx:ev ρ x=.tuple vs.toArray) (hv:vs[i]?=some v) (hN:d<N) (kk:WL ro P N ops Q rest (cg ρ d v) w):
  WL ro P N ops Q (⟨some d,.extract x i,ty,pos,af,none⟩::rest) ρ w:=aM rfl rfl hN (dT hx hv) kk
theorem yi {fn:Fn}{first captured:Array Operand}{fs cs:List Value} (hf:xI ρ first.toList=fs) (hc:xI ρ captured.toList=cs) (hN:d<N) (kk:WL ro P N ops Q rest (cg ρ d (.func fn fs.toArray cs.toArray)) w):
  WL ro P N ops Q (⟨some d,.makeFunc fn first captured,ty,pos,af,none⟩::rest) ρ w:=aM rfl rfl hN (qJ hf hc) kk
theorem tR {x:Operand}{t:TypeId}{s:ByteArray} (ht:P.underlying t=some .string) (hx:ev ρ x=.string s) (hN:d<N) (kk:WL ro P N ops Q rest (cg ρ d (.int .i64 s.size)) w):
  WL ro P N ops Q (⟨some d,.call ⟨.builtin .len, #[x], #[t]⟩,ty,pos,af,none⟩::rest) ρ w:=aM rfl rfl hN (Ld ht hx) kk
theorem Pf {x:Operand}{t e:TypeId}{A:Option Addr}{n c:Nat} (ht:P.underlying t=some (.slice e)) (hx:ev ρ x=.slice A n c) (hN:d<N) (kk:WL ro P N ops Q rest (cg ρ d (.int .i64 n)) w):
  WL ro P N ops Q (⟨some d,.call ⟨.builtin .len, #[x], #[t]⟩,ty,pos,af,none⟩::rest) ρ w:=aM rfl rfl hN (Cx ht hx) kk
theorem Yg {x y:Operand}{ts:Array TypeId}{k:IntKind}{a b:Int} (hx:ev ρ x=.int k a) (hy:ev ρ y=.int k b) (hN:d<N) (kk:WL ro P N ops Q rest (cg ρ d (.int k (if b<a then b else a))) w):
  WL ro P N ops Q (⟨some d,.call ⟨.builtin .min, #[x,y],ts⟩,ty,pos,af,none⟩::rest) ρ w:=aM rfl rfl hN (WM hx hy) kk
theorem Yi {x y:Operand}{ts:Array TypeId}{k:IntKind}{a b:Int} (hx:ev ρ x=.int k a) (hy:ev ρ y=.int k b) (hN:d<N) (kk:WL ro P N ops Q rest (cg ρ d (.int k (if b>a then b else a))) w):
  WL ro P N ops Q (⟨some d,.call ⟨.builtin .max, #[x,y],ts⟩,ty,pos,af,none⟩::rest) ρ w:=aM rfl rfl hN (Tf hx hy) kk
theorem uN {t:TypeId}{x i:Operand}{s:ByteArray}{n:Int}{k:IntKind}{c:UInt8} (ht:P.underlying t=some .string) (hx:ev ρ x=.string s) (hi:ev ρ i=.int k n)
  (h0:0≤n) (hc:s.data.toList[n.toNat]?=some c) (hN:d<N) (kk:WL ro P N ops Q rest (cg ρ d (.int .u8 c.toNat)) w):
  WL ro P N ops Q (⟨some d,.index t x i,ty,pos,af,none⟩::rest) ρ w:=aM rfl rfl hN (uL ht hx hi h0 hc) kk
theorem ux {t:TypeId}{x:Operand}{lo hi:Option Operand}{s:ByteArray}{l h:Nat} (ht:P.underlying t=some .string) (hx:ev ρ x=.string s)
  (hlo:match lo with|none=>l=0|some o=>∃(k:IntKind) (n:Int),ev ρ o=.int k n∧n=l) (hhi:match hi with|none=>h=s.size|some o=>∃(k:IntKind) (n:Int),ev ρ o=.int k n∧n=h)
  (h1:l≤h) (h2:h≤s.size) (hN:d<N) (kk:WL ro P N ops Q rest (cg ρ d (.string (s.extract l h))) w):
  WL ro P N ops Q (⟨some d,.slice t x lo hi none,ty,pos,af,none⟩::rest) ρ w:=aM rfl rfl hN (Dl ht hx hlo hhi h1 h2) kk
theorem Fo {t e:TypeId}{x i:Operand}{ad:Addr}{n c sz:Nat}{k:IntKind}{m:Int} (ht:P.underlying t=some (.slice e)) (hsz:(P.info? e).map (·.size)=some sz) (hx:ev ρ x=.slice (some ad) n c) (hi:ev ρ i=.int k m)
  (h0:0≤m) (h1:m<n) (hN:d<N) (kk:WL ro P N ops Q rest (cg ρ d (.pointer (some (ad.add (m.toNat*sz))))) w):
  WL ro P N ops Q (⟨some d,.indexAddr t x i,ty,pos,af,none⟩::rest) ρ w:=aM rfl rfl hN (ep ht hsz hx hi h0 h1) kk
theorem dF {t e:TypeId}{x i:Operand}{b n c sz k:Nat}{kk:IntKind}{m:Int} (ht:P.underlying t=some (.slice e)) (hsz:(P.info? e).map (·.size)=some sz) (hx:ev ρ x=.slice (some ⟨b,0,none⟩) n c) (hi:ev ρ i=.int kk m)
  (hm:m=(k:Int)) (h1:k<n) (hN:d<N) (kk:WL ro P N ops Q rest (cg ρ d (.pointer (some ⟨b,k*sz,none⟩))) w):
  WL ro P N ops Q (⟨some d,.indexAddr t x i,ty,pos,af,none⟩::rest) ρ w:=aM rfl rfl hN (rb ht hsz hx hi hm h1) kk
theorem bF {t:TypeId}{x:Operand}{ad:Addr}{n by':Nat}{zc vs:List Value} (ht:dy P t=some (n,true,by',zc)) (hx:ev ρ x=.pointer (some ad)) (hr:Rd w ad vs) (hl:vs.length=n) (hN:d<N) (kk:WL ro P N ops Q rest (cg ρ d (.agg vs.toArray)) w):
  WL ro P N ops Q (⟨some d,.load t x,ty,pos,af,none⟩::rest) ρ w:=aM rfl rfl hN (xz ht hx hr hl) kk
theorem bG {t:TypeId}{x:Operand}{ad:Addr}{n by':Nat}{zc:List Value}{v:Value} (ht:dy P t=some (n,false,by',zc)) (hx:ev ρ x=.pointer (some ad)) (hc:w.cell? ad=some v) (hN:d<N) (kk:WL ro P N ops Q rest (cg ρ d v) w):
  WL ro P N ops Q (⟨some d,.load t x,ty,pos,af,none⟩::rest) ρ w:=aM rfl rfl hN (iF ht hx hc) kk
theorem CO {s:TypeId}{x:Operand}{f b o off:Nat}{ft:TypeId} (hf:iL P s f=some (off,ft)) (hx:ev ρ x=.pointer (some ⟨b,o,none⟩)) (hN:d<N) (kk:WL ro P N ops Q rest (cg ρ d (.pointer (some ⟨b,o+off,none⟩))) w):
  WL ro P N ops Q (⟨some d,.fieldAddr s x f,ty,pos,af,none⟩::rest) ρ w:=aM rfl rfl hN (ue hf hx) kk
theorem nt {s:TypeId}{x:Operand}{f off:Nat}{ad:Addr}{ft:TypeId} (hf:iL P s f=some (off,ft)) (hx:ev ρ x=.pointer (some ad)) (hN:d<N) (kk:WL ro P N ops Q rest (cg ρ d (.pointer (some (ad.add off)))) w):
  WL ro P N ops Q (⟨some d,.fieldAddr s x f,ty,pos,af,none⟩::rest) ρ w:=aM rfl rfl hN (rD hf hx) kk
theorem RH {s:TypeId}{x:Operand}{f off n by':Nat}{ft:TypeId}{cs vs:Array Value}{zc:List Value} (hf:iL P s f=some (off,ft)) (ht:dy P ft=some (n,true,by',zc)) (hx:ev ρ x=.agg cs) (hv:cs.extract off (off+n)=vs) (hN:d<N) (kk:WL ro P N ops Q rest (cg ρ d (.agg vs)) w):
  WL ro P N ops Q (⟨some d,.field s x f,ty,pos,af,none⟩::rest) ρ w:=aM rfl rfl hN (Ry hf ht hx hv) kk
theorem Q0 {t:TypeId}{n by':Nat}{parts:Array (Nat×Operand)}{ps:List (Nat×Value)}{zc cs:List Value}{pl:List (Nat×Nat)} (hte:dy P t=some (n,true,by',zc))
  (hpl:ru P t=some pl)
  (hp:Cm ρ parts.toList=ps) (hf:lR (pl[·]?) zc ps=some cs) (hN:d<N) (kk:WL ro P N ops Q rest (cg ρ d (.agg cs.toArray)) w):
  WL ro P N ops Q (⟨some d,.build t parts,ty,pos,af,none⟩::rest) ρ w:=aM rfl rfl hN (ng hte hpl hp hf) kk
theorem uI {s t e:TypeId}{x:Operand}{A:Option Addr}{n c:Nat}{l:List UInt8} (hs:P.underlying s=some (.slice e)) (he:P.underlying e=some (.int .u8)) (ht:P.underlying t=some .string)
  (hx:ev ρ x=.slice A n c) (h:Sl w A n 1 (n5 l)) (hN:d<N) (kk:WL ro P N ops Q rest (cg ρ d (.string ⟨l.toArray⟩)) w):
  WL ro P N ops Q (⟨some d,.convert s t x,ty,pos,af,none⟩::rest) ρ w:=aM rfl rfl hN (oI hs he ht hx h) kk
section
variable {t u:TypeId}{x y:Operand}{k:IntKind}{q M:Nat}{a b:Nat}
theorem fG [UK k q M] (hx:ev ρ x=.int k (a:Int)) (hy:ev ρ y=.int k (b:Int)) (hN:d<N) (kk:WL ro P N ops Q rest (cg ρ d (.int k (((a+b) % M:Nat):Int))) w):
  WL ro P N ops Q (⟨some d,.binOp .add t x y u,ty,pos,af,none⟩::rest) ρ w:=aM rfl rfl hN (Vs hx hy) kk
theorem tG [UK k q M] (hx:ev ρ x=.int k (a:Int)) (hy:ev ρ y=.int k (b:Int)) (hb:b≤M) (hN:d<N) (kk:WL ro P N ops Q rest (cg ρ d (.int k (((a+M-b) % M:Nat):Int))) w):
  WL ro P N ops Q (⟨some d,.binOp .sub t x y u,ty,pos,af,none⟩::rest) ρ w:=aM rfl rfl hN (Wp hx hy hb) kk
theorem gj [UK k q M] (hx:ev ρ x=.int k (a:Int)) (hy:ev ρ y=.int k (b:Int)) (hN:d<N) (kk:WL ro P N ops Q rest (cg ρ d (.int k (((a*b) % M:Nat):Int))) w):
  WL ro P N ops Q (⟨some d,.binOp .mul t x y u,ty,pos,af,none⟩::rest) ρ w:=aM rfl rfl hN (UR hx hy) kk
theorem FQ [UK k q M] (hx:ev ρ x=.int k (a:Int)) (hy:ev ρ y=.int k (b:Int)) (hb:0<b) (ha:a<M) (hN:d<N) (kk:WL ro P N ops Q rest (cg ρ d (.int k ((a/b:Nat):Int))) w):
  WL ro P N ops Q (⟨some d,.binOp .quo t x y u,ty,pos,af,none⟩::rest) ρ w:=aM rfl rfl hN (Pv hx hy hb ha) kk
theorem Fx (hx:ev ρ x=.int k (a:Int)) (hy:ev ρ y=.int k (b:Int)) (hb:0<b) (hN:d<N) (kk:WL ro P N ops Q rest (cg ρ d (.int k ((a % b:Nat):Int))) w):
  WL ro P N ops Q (⟨some d,.binOp .rem t x y u,ty,pos,af,none⟩::rest) ρ w:=aM rfl rfl hN (Ni hx hy hb) kk
theorem Yt [h:UK k q M] (hx:ev ρ x=.int k (a:Int)) (hy:ev ρ y=.int k (b:Int)) (ha:a<M) (hb:b<M) (hN:d<N) (kk:WL ro P N ops Q rest (cg ρ d (.int k ((a|||b:Nat):Int))) w):
  WL ro P N ops Q (⟨some d,.binOp .or t x y u,ty,pos,af,none⟩::rest) ρ w:=aM rfl rfl hN (Yq hx hy ha hb) kk
theorem Gk [h:UK k q M] (hx:ev ρ x=.int k (a:Int)) (hy:ev ρ y=.int k (b:Int)) (ha:a<M) (hb:b<M) (hN:d<N) (kk:WL ro P N ops Q rest (cg ρ d (.int k ((a &&& b:Nat):Int))) w):
  WL ro P N ops Q (⟨some d,.binOp .and t x y u,ty,pos,af,none⟩::rest) ρ w:=aM rfl rfl hN (UY hx hy ha hb) kk
theorem Gl [h:UK k q M] {k':IntKind}{s:Int} (hx:ev ρ x=.int k (a:Int)) (hy:ev ρ y=.int k' s) (hs:0≤s∧s≤q) (hN:d<N) (kk:WL ro P N ops Q rest (cg ρ d (.int k (((a*2^s.toNat) % M:Nat):Int))) w):
  WL ro P N ops Q (⟨some d,.binOp .shl t x y u,ty,pos,af,none⟩::rest) ρ w:=aM rfl rfl hN (wi hx hy hs) kk
theorem wB [h:UK k q M] {k':IntKind}{s:Int} (hx:ev ρ x=.int k (a:Int)) (hy:ev ρ y=.int k' s) (hs:0≤s∧s≤q) (hN:d<N) (kk:WL ro P N ops Q rest (cg ρ d (.int k ((a/2^s.toNat:Nat):Int))) w):
  WL ro P N ops Q (⟨some d,.binOp .shr t x y u,ty,pos,af,none⟩::rest) ρ w:=aM rfl rfl hN (Fz hx hy hs) kk
theorem mY [UK k q M] {k':IntKind}{s m:Nat} (hx:ev ρ x=.int k (a:Int)) (hy:ev ρ y=.int k' (s:Int)) (hs:s≤q) (hm:2^s=m) (hN:d<N) (kk:WL ro P N ops Q rest (cg ρ d (.int k ((a/m:Nat):Int))) w):
  WL ro P N ops Q (⟨some d,.binOp .shr t x y u,ty,pos,af,none⟩::rest) ρ w:=aM rfl rfl hN (RE hx hy hs hm) kk
theorem Pt [h:UK k q M] (hx:ev ρ x=.int k (a:Int)) (ha:a≤M) (hN:d<N) (kk:WL ro P N ops Q rest (cg ρ d (.int k (((M-a) % M:Nat):Int))) w):
  WL ro P N ops Q (⟨some d,.unOp .neg t x,ty,pos,af,none⟩::rest) ρ w:=aM rfl rfl hN (UZ hx ha) kk
theorem Qj [UK k q M] {s t:TypeId}{k':IntKind}{sd:TypeDesc} (hs:P.underlying s=some sd) (ht:P.underlying t=some (.int k)) (hx:ev ρ x=.int k' (a:Int)) (hN:d<N) (kk:WL ro P N ops Q rest (cg ρ d (.int k ((a % M:Nat):Int))) w):
  WL ro P N ops Q (⟨some d,.convert s t x,ty,pos,af,none⟩::rest) ρ w:=aM rfl rfl hN (RI hs ht hx) kk
theorem Hf [UK k q M] {s t:TypeId}{k':IntKind}{sd:TypeDesc} (hs:P.underlying s=some sd) (ht:P.underlying t=some (.int k)) (hx:ev ρ x=.int k' (a:Int)) (ha:a<M) (hN:d<N) (kk:WL ro P N ops Q rest (cg ρ d (.int k (a:Int))) w):
  WL ro P N ops Q (⟨some d,.convert s t x,ty,pos,af,none⟩::rest) ρ w:=aM rfl rfl hN (xx hs ht hx ha) kk
end
section
variable {t u:TypeId}{x y:Operand}{k:IntKind}{a b:Int}
theorem SH (hx:ev ρ x=.int k a) (hy:ev ρ y=.int k b) (hN:d<N) (kk:WL ro P N ops Q rest (cg ρ d (.bool (decide (a<b)))) w):
  WL ro P N ops Q (⟨some d,.binOp .lss t x y u,ty,pos,af,none⟩::rest) ρ w:=aM rfl rfl hN (IP hx hy) kk
theorem SC (hx:ev ρ x=.int k a) (hy:ev ρ y=.int k b) (hN:d<N) (kk:WL ro P N ops Q rest (cg ρ d (.bool (decide (a≤b)))) w):
  WL ro P N ops Q (⟨some d,.binOp .leq t x y u,ty,pos,af,none⟩::rest) ρ w:=aM rfl rfl hN (Im hx hy) kk
theorem Sq (hx:ev ρ x=.int k a) (hy:ev ρ y=.int k b) (hN:d<N) (kk:WL ro P N ops Q rest (cg ρ d (.bool (decide (b<a)))) w):
  WL ro P N ops Q (⟨some d,.binOp .gtr t x y u,ty,pos,af,none⟩::rest) ρ w:=aM rfl rfl hN (H0 hx hy) kk
theorem Ss (hx:ev ρ x=.int k a) (hy:ev ρ y=.int k b) (hN:d<N) (kk:WL ro P N ops Q rest (cg ρ d (.bool (decide (b≤a)))) w):
  WL ro P N ops Q (⟨some d,.binOp .geq t x y u,ty,pos,af,none⟩::rest) ρ w:=aM rfl rfl hN (Qo hx hy) kk
theorem RJ (hx:ev ρ x=.int k a) (hy:ev ρ y=.int k b) (hN:d<N) (kk:WL ro P N ops Q rest (cg ρ d (.bool (decide (a≠b)))) w):
  WL ro P N ops Q (⟨some d,.binOp .neq t x y u,ty,pos,af,none⟩::rest) ρ w:=aM rfl rfl hN (Ra hx hy) kk
end
section
variable {t u:TypeId}{x y:Operand}{a b:Bool}
theorem H5 (ht:P.underlying t=some .bool) (hx:ev ρ x=.bool a) (hy:ev ρ y=.bool b) (h:a=b) (hN:d<N) (kk:WL ro P N ops Q rest (cg ρ d (.bool true)) w):
  WL ro P N ops Q (⟨some d,.binOp .eql t x y u,ty,pos,af,none⟩::rest) ρ w:=aM rfl rfl hN (Sc ht hx hy h) kk
theorem Rn (ht:P.underlying t=some .bool) (hx:ev ρ x=.bool a) (hy:ev ρ y=.bool b) (h:¬a=b) (hN:d<N) (kk:WL ro P N ops Q rest (cg ρ d (.bool false)) w):
  WL ro P N ops Q (⟨some d,.binOp .eql t x y u,ty,pos,af,none⟩::rest) ρ w:=aM rfl rfl hN (RP ht hx hy h) kk
theorem Je (ht:P.underlying t=some .bool) (hx:ev ρ x=.bool a) (hy:ev ρ y=.bool b) (h:¬a=b) (hN:d<N) (kk:WL ro P N ops Q rest (cg ρ d (.bool true)) w):
  WL ro P N ops Q (⟨some d,.binOp .neq t x y u,ty,pos,af,none⟩::rest) ρ w:=aM rfl rfl hN (Rv ht hx hy h) kk
theorem R6 (ht:P.underlying t=some .bool) (hx:ev ρ x=.bool a) (hy:ev ρ y=.bool b) (h:a=b) (hN:d<N) (kk:WL ro P N ops Q rest (cg ρ d (.bool false)) w):
  WL ro P N ops Q (⟨some d,.binOp .neq t x y u,ty,pos,af,none⟩::rest) ρ w:=aM rfl rfl hN (R8 ht hx hy h) kk
end
theorem du {t e:TypeId}{x i:Operand}{ad:Addr}{n c sz k:Nat}{kk:IntKind}{m:Int} (ht:P.underlying t=some (.slice e)) (hsz:(P.info? e).map (·.size)=some sz) (hx:ev ρ x=.slice (some ad) n c) (hi:ev ρ i=.int kk m)
  (hm:m=(k:Int)) (h1:k<n) (hN:d<N) (kk:WL ro P N ops Q rest (cg ρ d (.pointer (some (ad.add (k*sz))))) w):
  WL ro P N ops Q (⟨some d,.indexAddr t x i,ty,pos,af,none⟩::rest) ρ w:=aM rfl rfl hN (iC ht hsz hx hi hm h1) kk
theorem nj {t e:TypeId}{x i:Operand}{b o n c sz k:Nat}{kk:IntKind}{m:Int} (ht:P.underlying t=some (.slice e)) (hsz:(P.info? e).map (·.size)=some sz) (hx:ev ρ x=.slice (some ⟨b,o,none⟩) n c) (hi:ev ρ i=.int kk m)
  (hm:m=(k:Int)) (h1:k<n) (hN:d<N) (kk:WL ro P N ops Q rest (cg ρ d (.pointer (some ⟨b,o+k*sz,none⟩))) w):
  WL ro P N ops Q (⟨some d,.indexAddr t x i,ty,pos,af,none⟩::rest) ρ w:=aM rfl rfl hN (Hd ht hsz hx hi hm h1) kk
theorem GA {t e:TypeId}{x i:Operand}{ad:Addr}{n sz k:Nat}{kk:IntKind}{m:Int} (ht:P.underlying t=some (.array n e)) (hsz:(P.info? e).map (·.size)=some sz) (hx:ev ρ x=.pointer (some ad)) (hi:ev ρ i=.int kk m)
  (hm:m=(k:Int)) (h1:k<n) (hN:d<N) (kk:WL ro P N ops Q rest (cg ρ d (.pointer (some (ad.add (k*sz))))) w):
  WL ro P N ops Q (⟨some d,.indexAddr t x i,ty,pos,af,none⟩::rest) ρ w:=aM rfl rfl hN (Hk ht hsz hx hi hm h1) kk
theorem oG {t e:TypeId}{x hi:Operand}{A:Option Addr}{n c h sz:Nat}{k:IntKind}{m:Int} (ht:P.underlying t=some (.slice e)) (hsz:(P.info? e).map (·.size)=some sz) (hx:ev ρ x=.slice A n c) (hhi:ev ρ hi=.int k m)
  (hm:m=(h:Int)) (h2:h≤c) (hN:d<N) (kk:WL ro P N ops Q rest (cg ρ d (.slice A h c)) w):
  WL ro P N ops Q (⟨some d,.slice t x none (some hi) none,ty,pos,af,none⟩::rest) ρ w:=aM rfl rfl hN (Ct ht hsz hx hhi hm h2) kk
theorem GN {t e:TypeId}{x lo:Operand}{b o n c l sz:Nat}{k:IntKind}{m:Int} (ht:P.underlying t=some (.slice e)) (hsz:(P.info? e).map (·.size)=some sz) (hx:ev ρ x=.slice (some ⟨b,o,none⟩) n c) (hlo:ev ρ lo=.int k m)
  (hm:m=(l:Int)) (h1:l≤n) (h2:n≤c) (h3:l<c) (hN:d<N) (kk:WL ro P N ops Q rest (cg ρ d (.slice (some ⟨b,o+l*sz,none⟩) (n-l) (c-l))) w):
  WL ro P N ops Q (⟨some d,.slice t x (some lo) none none,ty,pos,af,none⟩::rest) ρ w:=aM rfl rfl hN (Hw ht hsz hx hlo hm h1 h2 h3) kk
theorem ET {t e:TypeId}{x lo:Operand}{ad:Addr}{n c l sz:Nat}{k:IntKind}{m:Int} (ht:P.underlying t=some (.slice e)) (hsz:(P.info? e).map (·.size)=some sz) (hx:ev ρ x=.slice (some ad) n c) (hlo:ev ρ lo=.int k m)
  (hm:m=(l:Int)) (h1:l≤n) (h2:n≤c) (h3:l<c) (hN:d<N) (kk:WL ro P N ops Q rest (cg ρ d (.slice (some (ad.add (l*sz))) (n-l) (c-l))) w):
  WL ro P N ops Q (⟨some d,.slice t x (some lo) none none,ty,pos,af,none⟩::rest) ρ w:=aM rfl rfl hN (ER ht hsz hx hlo hm h1 h2 h3) kk
theorem aY:xI ρ []=[]:=rfl
theorem aq {x:Operand}{l:List Operand}{v:Value}{r:List Value} (hx:ev ρ x=v) (h:xI ρ l=r):xI ρ (x::l)=v::r:=by simp only [xI,hx,h]
theorem dk:Cm ρ []=[]:=rfl
theorem bC {i:Nat}{x:Operand}{l:List (Nat×Operand)}{v:Value}{r:List (Nat×Value)} (hx:ev ρ x=v) (h:Cm ρ l=r):Cm ρ ((i,x)::l)=(i,v)::r:=by simp only [Cm,hx,h]
def G2 (P:Program) (f:FuncId):Bool:=match P.funcs[f]? with|some fn=> !fn.body.isNone && !(fn.name== "runtime.NumGoroutine")|none=>false
theorem zt {P:Program}{f:FuncId} (h:G2 P f=true):∃fn,P.funcs[f]?=some fn∧fn.body.isNone=false∧(fn.name== "runtime.NumGoroutine")=false:=by
 unfold G2 at h;split at h
 ·rename_i fn hf;simp only [abS,aep] at h;exact ⟨fn,hf,h.1,h.2⟩
 ·cases h
theorem aR {dd:Option Nat}{g:Option (Nat×Bool)}{f:FuncId}{args:Array Operand}{ts:Array TypeId}{vs:List Value} (hf:G2 P f=true) (ha:xI ρ args.toList=vs):
  (execOp (ev ρ) ⟨dd,.call ⟨.value (.func f),args,ts⟩,ty,pos,af,g⟩).run P w=.ok (.enter f vs.toArray) w:=by
 obtain ⟨fn,h1,h2,h3⟩:=zt hf;have:=MK (P:=P) (w:=w) (d:=dd) (ty:=ty) (pos:=pos) (af:=af) (g:=g) (ts:=ts) h1 h2 h3 (show ev ρ (.func f)=.func (.func f) #[] #[] from rfl) (pM args ha);simpa using this
theorem Li {dd:Option Nat}{g:Option (Nat×Bool)}{x:Operand}{f:FuncId}{args:Array Operand}{ts:Array TypeId}{first cap vs:List Value} (hf:G2 P f=true) (hx:ev ρ x=.func (.func f) first.toArray cap.toArray) (ha:first++(xI ρ args.toList++cap)=vs):
  (execOp (ev ρ) ⟨dd,.call ⟨.value x,args,ts⟩,ty,pos,af,g⟩).run P w=.ok (.enter f vs.toArray) w:=by
 obtain ⟨fn,h1,h2,h3⟩:=zt hf;have:=MK (P:=P) (w:=w) (d:=dd) (ty:=ty) (pos:=pos) (af:=af) (g:=g) (ts:=ts) h1 h2 h3 hx (pM args rfl);subst ha;simpa using this
theorem au {f:FuncId}{args:Array Operand}{ts:Array TypeId}{vs:List Value}{R:Ending→World→Prop} (hc:Calls P f vs.toArray w R) (hf:G2 P f=true) (ha:xI ρ args.toList=vs) (hN:d<N)
  (kk:∀e w',R e w'→∃v,e=.returned v∧WL ro P N ops Q rest (cg ρ d v) w'):WL ro P N ops Q (⟨some d,.call ⟨.value (.func f),args,ts⟩,ty,pos,af,none⟩::rest) ρ w:=
 C6 rfl rfl hN (aR hf ha) hc kk
theorem g7 {x:Operand}{f:FuncId}{args:Array Operand}{ts:Array TypeId}{first cap vs:List Value}{R:Ending→World→Prop} (hc:Calls P f vs.toArray w R) (hf:G2 P f=true) (hx:ev ρ x=.func (.func f) first.toArray cap.toArray) (ha:first++(xI ρ args.toList++cap)=vs) (hN:d<N)
  (kk:∀e w',R e w'→∃v,e=.returned v∧WL ro P N ops Q rest (cg ρ d v) w'):WL ro P N ops Q (⟨some d,.call ⟨.value x,args,ts⟩,ty,pos,af,none⟩::rest) ρ w:=
 C6 rfl rfl hN (Li hf hx ha) hc kk
end
end
end Go.Proofs.YtmchncaiffbpaaaGreatDoor
