/- Lemmas for solveAll, part 1. -/
import Derived.KernelRfl
import Derived.Test.YtbencocchdpikaaGreatDoorRows
import Derived.WalkKit
import Derived.ProofKit
import Derived.OpenShut
import Derived.Carry
set_option linter.all false
set_option maxHeartbeats 0
namespace Go.Proofs.YtbencocchdpikaaGreatDoor
open Go.Proofs.Tryz
open Go.ChangeShapes Go.WideShapes Go.ChangeAt Go.RowKit
def L':type_of% @if_neg:=@if_neg
def J':type_of% @if_pos:=@if_pos
def I':type_of% @List.Sublist.cons_cons:=@List.Sublist.cons_cons
def G':type_of% @List.mem_of_getElem?:=@List.mem_of_getElem?
def F':type_of% @List.mem_cons_of_mem:=@List.mem_cons_of_mem
def E':type_of% @List.nil_append:=@List.nil_append
def D':type_of% @Nat.zero_le:=@Nat.zero_le
def C':type_of% @List.cons_append:=@List.cons_append
def q':type_of% @List.mem_cons_self:=@List.mem_cons_self
def p':type_of% @List.Sublist.cons:=@List.Sublist.cons
def j':type_of% @Nat.le_refl:=@Nat.le_refl
def i':type_of% @List.mem_map:=@List.mem_map
def Z_:type_of% @List.length_map:=@List.length_map
def Y_:type_of% @List.length_append:=@List.length_append
def X_:type_of% @List.getElem?_eq_some_iff:=@List.getElem?_eq_some_iff
def W_:type_of% @List.take_of_length_le:=@List.take_of_length_le
def V_:type_of% @List.getElem?_map:=@List.getElem?_map
def U_:type_of% @List.set_cons_zero:=@List.set_cons_zero
def T_:type_of% @List.mem_cons:=@List.mem_cons
def S_:type_of% @List.mem_singleton:=@List.mem_singleton
def R_:type_of% @List.length_take:=@List.length_take
def Q_:type_of% @Bool.and_eq_true:=@Bool.and_eq_true
def P_:type_of% @List.perm_middle:=@List.perm_middle
def O_:type_of% @decide_eq_false:=@decide_eq_false
def N_:type_of% @decide_eq_true:=@decide_eq_true
def M_:type_of% @Nat.le_trans:=@Nat.le_trans
def L_:type_of% @Option.some.inj:=@Option.some.inj
def K_:type_of% @decide_eq_true_eq:=@decide_eq_true_eq
def J_:type_of% @congrArg:=@congrArg
def I_:type_of% @List.Sublist.slnil:=@List.Sublist.slnil
def H_:type_of% @Nat.mul_one:=@Nat.mul_one
def G_:type_of% @List.set_cons_succ:=@List.set_cons_succ
def F_:type_of% @Nat.mul_comm:=@Nat.mul_comm
def E_:type_of% @List.length_cons:=@List.length_cons
def D_:type_of% @Nat.pow_add:=@Nat.pow_add
def C_:type_of% @Nat.zero_add:=@Nat.zero_add
def B_:type_of% @Nat.mod_lt:=@Nat.mod_lt
def A_:type_of% @List.Sublist.refl:=@List.Sublist.refl
def z_:type_of% @List.mem_append:=@List.mem_append
def u_:type_of% @List.all_eq_true:=@List.all_eq_true
def t_:type_of% @Nat.pow_pos:=@Nat.pow_pos
def s_:type_of% @List.sublist_cons_self:=@List.sublist_cons_self
def r_:type_of% @List.getElem?_eq_none:=@List.getElem?_eq_none
def q_:type_of% @List.map_append:=@List.map_append
def o_:type_of% @List.map_cons:=@List.map_cons
def n_:type_of% @List.append_nil:=@List.append_nil
def m_:type_of% @Nat.pow_le_pow_right:=@Nat.pow_le_pow_right
def l_:type_of% @List.append_assoc:=@List.append_assoc
def k_:type_of% @Nat.mul_le_mul_left:=@Nat.mul_le_mul_left
def j_:type_of% @List.mem_iff_getElem?:=@List.mem_iff_getElem?
def i_:type_of% @Nat.pow_succ:=@Nat.pow_succ
def h_:type_of% @List.mem_range:=@List.mem_range
def g_:type_of% @Nat.mod_eq_of_lt:=@Nat.mod_eq_of_lt
def f_:type_of% @Bool.false_or:=@Bool.false_or
def d_:type_of% @Nat.sub_self:=@Nat.sub_self
def c_:type_of% @List.length_reverse:=@List.length_reverse
def Z9:type_of% @Nat.lt_or_ge:=@Nat.lt_or_ge
def Y9:type_of% @List.map_map:=@List.map_map
def X9:type_of% @Nat.mul_add:=@Nat.mul_add
def W9:type_of% @Nat.pow_mul:=@Nat.pow_mul
def V9:type_of% @Nat.lt_of_lt_of_le:=@Nat.lt_of_lt_of_le
def U9:type_of% @List.ext_getElem?:=@List.ext_getElem?
def T9:type_of% @List.length_set:=@List.length_set
def S9:type_of% @Nat.lt_of_le_of_lt:=@Nat.lt_of_le_of_lt
def R9:type_of% @List.nil_sublist:=@List.nil_sublist
def Q9:type_of% @List.getElem?_mapIdx:=@List.getElem?_mapIdx
def P9:type_of% @List.take_append_drop:=@List.take_append_drop
def O9:type_of% @List.not_mem_nil:=@List.not_mem_nil
def N9:type_of% @Nat.mul_assoc:=@Nat.mul_assoc
def M9:type_of% @Nat.mul_le_mul_right:=@Nat.mul_le_mul_right
def L9:type_of% @Nat.div_eq_of_lt:=@Nat.div_eq_of_lt
def K9:type_of% @List.length_drop:=@List.length_drop
def J9:type_of% @List.getD_eq_getElem?_getD:=@List.getD_eq_getElem?_getD
def I9:type_of% @List.length_replicate:=@List.length_replicate
def H9:type_of% @List.getElem?_append_right:=@List.getElem?_append_right
def G9:type_of% @List.map_nil:=@List.map_nil
def F9:type_of% @List.getElem?_set:=@List.getElem?_set
def E9:type_of% @Nat.div_add_mod:=@Nat.div_add_mod
def D9:type_of% @of_decide_eq_true:=@of_decide_eq_true
def C9:type_of% @Nat.div_lt_iff_lt_mul:=@Nat.div_lt_iff_lt_mul
def B9:type_of% @Array.getD_eq_getD_getElem?:=@Array.getD_eq_getD_getElem?
def z9:type_of% @List.mem_append_left:=@List.mem_append_left
def y9:type_of% @Nat.min_eq_left:=@Nat.min_eq_left
def x9:type_of% @List.getElem?_range:=@List.getElem?_range
def u9:type_of% @Nat.add_zero:=@Nat.add_zero
def q9:type_of% @List.length_range:=@List.length_range
def p9:type_of% @List.any_eq_false:=@List.any_eq_false
def o9:type_of% @Nat.succ_mul:=@Nat.succ_mul
def n9:type_of% @Nat.mul_le_mul:=@Nat.mul_le_mul
def m9:type_of% @Option.getD_some:=@Option.getD_some
def l9:type_of% @Int.natCast_mul:=@Int.natCast_mul
def k9:type_of% @List.any_eq_true:=@List.any_eq_true
def j9:type_of% @List.map_set:=@List.map_set
def Z8:type_of% @List.mem_filter:=@List.mem_filter
def Y8:type_of% @List.pairwise_cons:=@List.pairwise_cons
def X8:type_of% @List.getElem?_append_left:=@List.getElem?_append_left
def W8:type_of% @Int.natAbs_mul:=@Int.natAbs_mul
def V8:type_of% @Option.map_eq_some_iff:=@Option.map_eq_some_iff
def U8:type_of% @Nat.div_div_eq_div_mul:=@Nat.div_div_eq_div_mul
def T8:type_of% @List.mem_append_right:=@List.mem_append_right
def S8:type_of% @Nat.add_mul_div_left:=@Nat.add_mul_div_left
def R8:type_of% @Nat.mul_succ:=@Nat.mul_succ
def Q8:type_of% @beq_iff_eq:=@beq_iff_eq
def P8:type_of% @Option.some.injEq:=@Option.some.injEq
def O8:type_of% @List.range_succ:=@List.range_succ
def N8:type_of% @List.mem_of_mem_take:=@List.mem_of_mem_take
def M8:type_of% @Int.sign_eq_one_of_pos:=@Int.sign_eq_one_of_pos
def L8:type_of% @Int.natCast_add:=@Int.natCast_add
def K8:type_of% @Option.map_some:=@Option.map_some
def J8:type_of% @List.getElem?_zipWith:=@List.getElem?_zipWith
def I8:type_of% @Int.sign_eq_neg_one_of_neg:=@Int.sign_eq_neg_one_of_neg
def H8:type_of% @List.mem_or_eq_of_mem_set:=@List.mem_or_eq_of_mem_set
def G8:type_of% @List.getElem?_eq_getElem:=@List.getElem?_eq_getElem
def F8:type_of% @List.getElem?_drop:=@List.getElem?_drop
def E8:type_of% @Bool.and_eq_true_iff:=@Bool.and_eq_true_iff
def D8:type_of% @List.take_zero:=@List.take_zero
def C8:type_of% @List.eq_nil_of_length_eq_zero:=@List.eq_nil_of_length_eq_zero
def B8:type_of% @List.mem_filterMap:=@List.mem_filterMap
def z8:type_of% @List.drop_of_length_le:=@List.drop_of_length_le
def y8:type_of% @List.drop_eq_getElem_cons:=@List.drop_eq_getElem_cons
def x8:type_of% @Nat.mul_lt_mul_of_pos_right:=@Nat.mul_lt_mul_of_pos_right
def q8:type_of% @Nat.div_le_self:=@Nat.div_le_self
def p8:type_of% @List.set_append_right:=@List.set_append_right
def o8:type_of% @Nat.eq_zero_or_pos:=@Nat.eq_zero_or_pos
def n8:type_of% @Int.toNat_natCast:=@Int.toNat_natCast
def m8:type_of% @List.map_congr_left:=@List.map_congr_left
def l8:type_of% @Nat.add_comm:=@Nat.add_comm
def k8:type_of% @Nat.add_mul:=@Nat.add_mul
def j8:type_of% @Int.natAbs_pow:=@Int.natAbs_pow
def g8:type_of% @List.mem_reverse:=@List.mem_reverse
def a8:type_of% @List.getElem?_toArray:=@List.getElem?_toArray
def Z7:type_of% @List.getElem?_reverse:=@List.getElem?_reverse
def Y7:type_of% @List.foldl_append:=@List.foldl_append
def X7:type_of% @List.mem_flatMap:=@List.mem_flatMap
def W7:type_of% @Nat.one_mul:=@Nat.one_mul
def V7:type_of% @List.getElem?_take:=@List.getElem?_take
def U7:type_of% @Dyadic.one_mul:=@Dyadic.one_mul
def T7:type_of% @Classical.byContradiction:=@Classical.byContradiction
def S7:type_of% @Classical.not_not:=@Classical.not_not
def R7:type_of% @Dyadic.add_zero:=@Dyadic.add_zero
def Q7:type_of% @List.find?_eq_none:=@List.find?_eq_none
def P7:type_of% @Dyadic.zero_add:=@Dyadic.zero_add
def O7:type_of% @Nat.mul_zero:=@Nat.mul_zero
def N7:type_of% @Nat.add_mul_mod_self_left:=@Nat.add_mul_mod_self_left
def M7:type_of% @List.length_mapIdx:=@List.length_mapIdx
def L7:type_of% @Nat.div_one:=@Nat.div_one
def K7:type_of% @List.reverse_cons:=@List.reverse_cons
def J7:type_of% @List.foldl_cons:=@List.foldl_cons
def I7:type_of% @List.filter_append:=@List.filter_append
def H7:type_of% @Nat.mul_pos:=@Nat.mul_pos
def G7:type_of% @List.map_singleton:=@List.map_singleton
def F7:type_of% @List.nodup_cons:=@List.nodup_cons
def E7:type_of% @List.replicate_succ:=@List.replicate_succ
def D7:type_of% @List.flatMap_cons:=@List.flatMap_cons
def C7:type_of% @Bool.or_eq_true:=@Bool.or_eq_true
def B7:type_of% @Option.bind_some:=@Option.bind_some
def z7:type_of% @Bool.not_eq_true':=@Bool.not_eq_true'
def y7:type_of% @List.any_cons:=@List.any_cons
def x7:type_of% @Dyadic.pow_zero:=@Dyadic.pow_zero
def u7:type_of% @List.drop_zero:=@List.drop_zero
def q7:type_of% @Int.natAbs_ediv_le_natAbs:=@Int.natAbs_ediv_le_natAbs
def p7:type_of% @List.length_zipWith:=@List.length_zipWith
def o7:type_of% @List.length_nil:=@List.length_nil
def n7:type_of% @List.flatMap_append:=@List.flatMap_append
def m7:type_of% @Int.natCast_nonneg:=@Int.natCast_nonneg
def l7:type_of% @List.drop_drop:=@List.drop_drop
def k7:type_of% @Int.le_refl:=@Int.le_refl
def j7:type_of% @Nat.zero_mul:=@Nat.zero_mul
def g7:type_of% @List.any_append:=@List.any_append
def a7:type_of% @Int.mul_neg:=@Int.mul_neg
def Z6:type_of% @List.take_succ_cons:=@List.take_succ_cons
def Y6:type_of% @Int.neg_neg:=@Int.neg_neg
def X6:type_of% @List.filterMap_cons:=@List.filterMap_cons
def W6:type_of% @List.length_eq_zero_iff:=@List.length_eq_zero_iff
def V6:type_of% @Nat.pow_zero:=@Nat.pow_zero
def U6:type_of% @Array.ext':=@Array.ext'
def T6:type_of% @List.any_nil:=@List.any_nil
def S6:type_of% @Nat.add_assoc:=@Nat.add_assoc
def R6:type_of% @List.perm_append_comm:=@List.perm_append_comm
def Q6:type_of% @List.getElem?_zip_eq_some:=@List.getElem?_zip_eq_some
def P6:type_of% @List.getElem?_cons_succ:=@List.getElem?_cons_succ
def O6:type_of% @List.getElem?_cons_zero:=@List.getElem?_cons_zero
def N6:type_of% @Nat.mod_add_div:=@Nat.mod_add_div
def M6:type_of% @List.size_toArray:=@List.size_toArray
def L6:type_of% @List.exists_cons_of_ne_nil:=@List.exists_cons_of_ne_nil
def K6:type_of% @List.find?_some:=@List.find?_some
def J6:type_of% @List.map_id':=@List.map_id'
def I6:type_of% @UInt8.toNat_inj:=@UInt8.toNat_inj
def H6:type_of% @Int.mul_comm:=@Int.mul_comm
def G6:type_of% @List.map_drop:=@List.map_drop
def F6:type_of% @Array.all_eq_true':=@Array.all_eq_true'
def E6:type_of% @Nat.mul_left_comm:=@Nat.mul_left_comm
def D6:type_of% @Bool.not_true:=@Bool.not_true
def C6:type_of% @Int.lt_trichotomy:=@Int.lt_trichotomy
def B6:type_of% @List.take_length:=@List.take_length
def z6:type_of% @Nat.lt_of_not_le:=@Nat.lt_of_not_le
def y6:type_of% @List.sum_cons:=@List.sum_cons
def x6:type_of% @Bool.eq_false_iff:=@Bool.eq_false_iff
def u6:type_of% @decide_eq_false_iff_not:=@decide_eq_false_iff_not
def q6:type_of% @List.reverse_reverse:=@List.reverse_reverse
def p6:type_of% @Int.eq_ofNat_of_zero_le:=@Int.eq_ofNat_of_zero_le
def o6:type_of% @List.sublist_append_left:=@List.sublist_append_left
def n6:type_of% @List.replicate_zero:=@List.replicate_zero
def m6:type_of% @List.mem_of_mem_drop:=@List.mem_of_mem_drop
def l6:type_of% @List.all_append:=@List.all_append
def k6:type_of% @List.mem_map_of_mem:=@List.mem_map_of_mem
def j6:type_of% @List.cons.injEq:=@List.cons.injEq
def a6:type_of% @Array.getElem?_eq_getElem:=@Array.getElem?_eq_getElem
def Z5:type_of% @List.length_filter_le:=@List.length_filter_le
def Y5:type_of% @UInt8.toNat_ofNat':=@UInt8.toNat_ofNat'
def X5:type_of% @List.mem_replicate:=@List.mem_replicate
def W5:type_of% @Int.sign_eq_zero_iff_zero:=@Int.sign_eq_zero_iff_zero
def V5:type_of% @Nat.mul_lt_mul'':=@Nat.mul_lt_mul''
def U5:type_of% @Nat.le_of_not_lt:=@Nat.le_of_not_lt
def T5:type_of% @List.Pairwise.nil:=@List.Pairwise.nil
def S5:type_of% @List.set_eq_take_append_cons_drop:=@List.set_eq_take_append_cons_drop
def R5:type_of% @Bool.false_eq_true:=@Bool.false_eq_true
def Q5:type_of% @Dyadic.mul_zero:=@Dyadic.mul_zero
def P5:type_of% @Dyadic.pow_succ:=@Dyadic.pow_succ
def O5:type_of% @List.filter_cons_of_neg:=@List.filter_cons_of_neg
def N5:type_of% @List.contains_iff_mem:=@List.contains_iff_mem
def M5:type_of% @List.find?_cons_of_pos:=@List.find?_cons_of_pos
def L5:type_of% @List.getElem?_eq_none_iff:=@List.getElem?_eq_none_iff
def K5:type_of% @Nat.le_mul_of_pos_right:=@Nat.le_mul_of_pos_right
def J5:type_of% @List.pairwise_append:=@List.pairwise_append
def I5:type_of% @List.getElem?_replicate:=@List.getElem?_replicate
def H5:type_of% @Array.getElem?_replicate:=@Array.getElem?_replicate
def F5:type_of% @List.pairwise_singleton:=@List.pairwise_singleton
def E5:type_of% @Array.getElem?_eq_none:=@Array.getElem?_eq_none
def D5:type_of% @List.filterMap_append:=@List.filterMap_append
def C5:type_of% @List.countP_singleton:=@List.countP_singleton
def B5:type_of% @Bool.and_eq_false_iff:=@Bool.and_eq_false_iff
def y5:type_of% @List.drop_eq_nil_of_le:=@List.drop_eq_nil_of_le
def zL0:List (List (Nat×Option Nat)):=[[(4,none)],[(21,some 0)],[(1,none)],[(23,some 2)],[(22,some 1),(24,some 3)],[(25,some 4)],[(26,some 5)],[(4,none),(27,some 6)],[(28,some 7),(27,some 6)],[(29,some 8),(27,some 6)],[(30,some 9),(27,some 6)],[(27,some 6),(31,some 10)],[(32,some 11)],[(4,none),(33,some 12)],[(34,some 13),(33,some 12)],[(35,some 14),(33,some 12)],[(4,none),(33,some 12)],[(37,some 16),(33,some 12)],[(36,some 15),(38,some 17),(33,some 12)],[(33,some 12),(39,some 18)],[(40,some 19)],[(3,none),(41,some 20)],[(42,some 21),(41,some 20)],[(43,some 22),(41,some 20)],[(1,none),(44,some 23)],[(45,some 24),(44,some 23)],[(3,none),(44,some 23)],[(47,some 26),(44,some 23)],[(46,some 25),(48,some 27),(44,some 23)],[(49,some 28),(44,some 23)],[(50,some 29),(44,some 23)],[(4,none),(44,some 23)],[(52,some 31),(44,some 23)]]
def zL1:List Nat:=[0,1,0,4,15,31,63,127,255,511,1023,2047,4095,8191,16383,32767,8191,73727,262143,524287,1048575,2097151,4194303,8388607,16777215,33554431,16777215,83886079,268435455,536870911,1073741823,16777215,2164260863,8589934591,17179869183,34359738367]
def zL2:List Nat:=[15,16,67,68,69,70,71,72,73,74,75,76,77,78,79,80,81,82,83,84,85]
def zL3:List Nat:=[16,18,102,103,104,105,106,107,108,109,110,111,112,113,114,115,116,117,118,119,120]
def zL4:List Nat:=[14,53,54,55,56,57,58,59,60,61,62,63,64,65,66,67,68,69]
def zL5:List Nat:=[23,24,25,26,27,28,29,30,31,32,33,34,35,36,37,38,39,40,41,42,43,44,45,46,47,48,49,50,51,52,53]
def Z'{p:Prop}(h:p:=by omega):p:=h
def U'{p:Prop}(h:p:=by decide):p:=h
def T'{p:Prop}(h:p:=by kernel_rfl):p:=h
def CE{P Q:Prop}(p:P)(h:P->Q:=by intro kQ;exact xI (b:=4294967295) rfl rfl (by first|assumption|omega) (by first|assumption|omega) U' kQ):Q:=h p
def Eu{P Q:Prop}(p:P)(h:P->Q:=by intro kQ;exact om (s:=32) (m:=4294967296) rfl rfl U' U' U' kQ):Q:=h p
def DM{P Q:Prop}(p:P)(h:P->Q:=by intro kQ;exact om (s:=8) (m:=256) rfl rfl U' U' U' kQ):Q:=h p
def Al{P Q:Prop}(p:P)(h:P->Q:=by intro kQ;exact HJ mb.out mb.out rfl (by first|assumption|omega) U' kQ):Q:=h p
def OM{P Q:Prop}(p:P)(h:P->Q:=by intro kQ;exact xt (sa (cF (nc (Xb (sr (mI (mI kQ)))))))):Q:=h p
def MK{P Q:Prop}(p:P)(h:P->Q:=by intro kQ;exact pd (k:=j) mb.out ya.size rfl rfl Z' Z' U' kQ):Q:=h p
def Gn{P Q:Prop}(p:P)(h:P->Q:=by intro kQ;exact ub ya.out rfl ((hr.ext hh.below).jw (by assumption)) U' kQ):Q:=h p
def SF{P Q:Prop}(p:P)(h:P->Q:=by intro kQ;exact adF rfl rfl (by first|assumption|omega) (by first|assumption|omega) U' kQ):Q:=h p
def ZS{P Q:Prop}(p:P)(h:P->Q:=by intro kQ;exact Ab hh (i:=0) (vs:=[_]) rfl rfl (Dc rfl) rfl ya.out rfl (by rw[La,Ja];omega) rfl kQ):Q:=h p
def rQ{P Q:Prop}(p:P)(h:P->Q:=by intro kQ;exact Ca 8 [[(0,none)],[(5,none)],[(28,some 0),(29,some 1)],[(30,some 2)],[(1,none)],[(5,none)],[(32,some 4),(33,some 5)],[(34,some 6)]] [(7,35),(6,34),(5,33),(4,32),(3,31),(2,30),(1,29),(0,28)] hh mixed T' kQ):Q:=h p
def WE{P Q:Prop}(p:P)(h:P->Q:=by intro kQ;exact Vo (λ_ hj=>(hr.ext hj.hp.below).jw hx3) kQ):Q:=h p
def oE{P Q:Prop}(p:P)(h:P->Q:=by intro kQ;exact Vo (λ_ hj=>(hs.ext hj.hp.below).jw hy3) kQ):Q:=h p
def ET{P Q:Prop}(p:P)(h:P->Q:=by intro kQ;exact Ea (Na (aa v35 (aa v34 (aa v33 (aa v32 (aa v31 (aa v30 (aa v29 (aa v28 Da))))))))) kQ):Q:=h p
def wZ{P Q:Prop}(p:P)(h:P->Q:=by intro kQ;exact Ca 8 [[(0,none)],[(5,none)],[(38,some 0),(39,some 1)],[(40,some 2)],[(1,none)],[(5,none)],[(42,some 4),(43,some 5)],[(44,some 6)]] [(7,45),(6,44),(5,43),(4,42),(3,41),(2,40),(1,39),(0,38)] hh mixed T' kQ):Q:=h p
def aaG{P Q:Prop}(p:P)(h:P->Q:=by intro kQ;exact Ea (Na (aa v45 (aa v44 (aa v43 (aa v42 (aa v41 (aa v40 (aa v39 (aa v38 Da))))))))) kQ):Q:=h p
def FF{P Q:Prop}(p:P)(h:P->Q:=by intro kQ;exact wi (sa (Xa (cT (nc (Xb (Xa (Oe (sr (mI (aI (sa (sr (aI (sa (Xa (sr (mI (mL (Ym kQ)))))))))))))))))))):Q:=h p
def kR{P Q:Prop}(p:P)(h:P->Q:=by intro kQ;exact pd (k:=done.length) mb.out ya.size rfl rfl Z' Z' U' kQ):Q:=h p
def Fj{P Q:Prop}(p:P)(h:P->Q:=by intro kQ;exact ub ya.out rfl (hh.cd (i:=0) rfl (by first|assumption|(simp only[H_];assumption))) U' kQ):Q:=h p
def Ap{P Q:Prop}(p:P)(h:P->Q:=by intro kQ;exact Rl (k:=done.length) mb.out ya.size rfl rfl Z' Z' U' kQ):Q:=h p
def XA{P Q:Prop}(p:P)(h:P->Q:=by intro kQ;exact Ab hh (i:=0) (vs:=[_]) rfl rfl (Dc rfl) rfl ya.out rfl (by rw[La];simp only[Y_,E_];omega) rfl kQ):Q:=h p
def Nz{P Q:Prop}(p:P)(h:P->Q:=by intro kQ;exact Bc hh (cs:=[_]) mb.out ya.out (Sb (Dc rfl) oe) rfl rfl U' U' U' rfl U' kQ):Q:=h p
def vu{P Q:Prop}(p:P)(h:P->Q:=by intro kQ;exact qa (yh a _ ha) ja.out rfl U' kQ):Q:=h p
def YK{P Q:Prop}(p:P)(h:P->Q:=by intro kQ;exact qa (yh b _ hb) ja.out rfl U' kQ):Q:=h p
def EH{P Q:Prop}(p:P)(h:P->Q:=by intro kQ;exact Oa hh (dq _ _ _ _ _ _ (Ha 18446744073709551616 (bN a)) (Ha 18446744073709551616 (bN b)) _ (hh.ra (i:=1) rfl) (hh.ra (i:=0) rfl) (Wf _) (Wf _) (hh.We (i:=1) rfl) (hh.We (i:=0) rfl) Z' Z') rfl kQ):Q:=h p
def EM{P Q:Prop}(p:P)(h:P->Q:=by intro kQ;exact pk rfl rfl (by first|rfl|assumption|decide) U' kQ):Q:=h p
def oN{P Q:Prop}(p:P)(h:P->Q:=by intro kQ;exact ck rfl rfl (by first|assumption|decide) U' kQ):Q:=h p
def Cq{P Q:Prop}(p:P)(h:P->Q:=by intro kQ;exact VN (td rfl (ud (vs:=[_,_]) ya.out (hh.qb (i:=0) (n:=2) rfl rfl) rfl) De) kQ):Q:=h p
def dW{P Q:Prop}(p:P)(h:P->Q:=by intro kQ;exact da (N:=13) (l:=[.agg #[.bool s,.string m]]) func87 rfl rfl (by simp) kQ):Q:=h p
def zK{P Q:Prop}(p:P)(h:P->Q:=by intro kQ;exact VY mb.out rfl rfl (by first|rfl|assumption|decide) U' kQ):Q:=h p
def aaW{P Q:Prop}(p:P)(h:P->Q:=by intro kQ;exact Ea (Na (aa v14 (aa v13 (aa v12 (aa v11 (aa v10 (aa v9 (aa v8 (aa v7 (aa v6 (aa v5 Da))))))))))) kQ):Q:=h p
def pB{P Q:Prop}(p:P)(h:P->Q:=by intro kQ;exact Ea (Na (aa v7 (aa v6 (aa v5 Da)))) kQ):Q:=h p
def BH{P Q:Prop}(p:P)(h:P->Q:=by intro kQ;exact Bc hh (cs:=[_,_,_,_]) mb.out ya.out (Sb (Qd rfl) (Sb (Qd rfl) oe)) rfl rfl U' U' U' rfl U' kQ):Q:=h p
def IK{P Q:Prop}(p:P)(h:P->Q:=by intro kQ;exact Ca 10 [[(2,none)],[(18,some 0)],[(1,none)],[(20,some 2)],[(19,some 1),(21,some 3)],[(2,none)],[(23,some 5)],[(22,some 4),(24,some 6)],[(25,some 7)],[]] [(9,5),(8,26),(7,25),(6,24),(5,23),(4,22),(3,21),(2,20),(1,19),(0,18)] hh mixed T' kQ):Q:=h p
def jM{P Q:Prop}(p:P)(h:P->Q:=by intro kQ;exact Wa (i:=3) (λρ1 w1 hj hR=>BR (show ρ1 20=Value.int _ _ from hR.1) Z' Z') kQ):Q:=h p
def WK{P Q:Prop}(p:P)(h:P->Q:=by intro kQ;exact Va (i:=9) (Ic _ 28 _) Ic.ext (λρ1 w1 hj hR=>Si ya.out hj.bl (λv w2 h hb=>⟨hb,h⟩)) kQ):Q:=h p
def CK{P Q:Prop}(p:P)(h:P->Q:=by intro kQ;exact Ea (Na (aa e5 (aa v26 (aa v25 (aa v24 (aa v23 (aa v22 (aa v21 (aa v20 (aa v19 (aa v18 Da))))))))))) kQ):Q:=h p
def IV{P Q:Prop}(p:P)(h:P->Q:=by intro kQ;exact da (N:=47) (l:=[.agg #[.bool true,.string a],.int .i64 (-(m:Int))]) func198 rfl rfl (by simp) kQ):Q:=h p
def WS{P Q:Prop}(p:P)(h:P->Q:=by intro kQ;exact da (N:=41) (l:=[.agg #[.bool a.neg,.string a.Qa,.int .i64 a.e],.agg #[.bool b.neg,.string b.Qa,.int .i64 b.e]]) func81 rfl rfl (by simp) kQ):Q:=h p
def oR{P Q:Prop}(p:P)(h:P->Q:=by intro kQ;exact Ca 3 [[(2,none)],[(7,some 0)],[(3,none)]] [(2,9),(1,8),(0,7)] hh mixed T' kQ):Q:=h p
def sU{P Q:Prop}(p:P)(h:P->Q:=by intro kQ;exact dC (λ_ hj=>Gd a _ (hT.hp hj.hp) Z' Z' Z') kQ):Q:=h p
def G0{P Q:Prop}(p:P)(h:P->Q:=by intro kQ;exact da (N:=28) (l:=[.agg #[.bool a.neg,.string a.Qa,.int .i64 a.e],.agg #[.bool b.neg,.string b.Qa,.int .i64 b.e]]) func26 rfl rfl (by simp) kQ):Q:=h p
def GM{P Q:Prop}(p:P)(h:P->Q:=by intro kQ;exact wb (vs:=[_,_,_]) ya.out rfl (((hr.ext hh.below).recAt NR.len hx)) rfl U' kQ):Q:=h p
def Lr{P Q:Prop}(p:P)(h:P->Q:=by intro kQ;exact Bc hh (cs:=[_,_,_,_,_,_]) mb.out ya.out (Sb (Qd rfl) (Sb (Qd rfl) oe)) rfl rfl U' U' U' rfl U' kQ):Q:=h p
def bF{P Q:Prop}(p:P)(h:P->Q:=by intro kQ;exact Oa hh (ml 1 _ (hT.hp hh) Z' Z') rfl kQ):Q:=h p
def iT{P Q:Prop}(p:P)(h:P->Q:=by intro kQ;exact xI (b:=1) rfl rfl (by first|assumption|omega) (by first|assumption|omega) U' kQ):Q:=h p
def Er{P Q:Prop}(p:P)(h:P->Q:=by intro kQ;exact Hb hh (i:=1) rfl rfl rfl (hh.ra (i:=0) rfl) mb.out ya.out rfl U' (by first|rfl|exact ic _|exact Ob _|exact Pa _|exact Ta NR.one _) Z' Z' U' kQ):Q:=h p
def GG{P Q:Prop}(p:P)(h:P->Q:=by intro kQ;exact Oa hh (Di A n c j xs _ (hx.ext hh.below) hdx Z' Z') rfl kQ):Q:=h p
def tH{P Q:Prop}(p:P)(h:P->Q:=by intro kQ;exact Oa hh (Di B m c' j ys _ (hy.ext hh.below) hdy Z' Z') rfl kQ):Q:=h p
def wE{P Q:Prop}(p:P)(h:P->Q:=by intro kQ;exact Xe (n:=n) hh rfl rfl Z' Z' mb.out ya.out rfl Z' Z' U' kQ):Q:=h p
def oB{P Q:Prop}(p:P)(h:P->Q:=by intro kQ;exact Fp rfl rfl Z' U' kQ):Q:=h p
def cU{P Q:Prop}(p:P)(h:P->Q:=by intro kQ;exact Ab hh (i:=0) (vs:=[_]) rfl rfl (Dc rfl) rfl ya.out rfl (by rw[hll];omega) rfl kQ):Q:=h p
def DH{P Q:Prop}(p:P)(h:P->Q:=by intro kQ;exact qa (Cf a _ ha) ja.out rfl U' kQ):Q:=h p
def VU{P Q:Prop}(p:P)(h:P->Q:=by intro kQ;exact Oa hh (Pg _ _ _ (Ha 2 (bN m)) _ (hh.ra (i:=0) rfl) (ik _) (hh.We (i:=0) rfl) Z') rfl kQ):Q:=h p
def XE{P Q:Prop}(p:P)(h:P->Q:=by intro kQ;exact VN (td rfl (ud (vs:=[_,_]) ya.out (hh.qb (i:=1) (n:=2) rfl rfl) rfl) De) kQ):Q:=h p
def iA{P Q:Prop}(p:P)(h:P->Q:=by intro kQ;exact VN (td rfl (ud (vs:=[_,_,_]) ya.out (hh.qb (i:=0) (n:=3) rfl rfl) rfl) De) kQ):Q:=h p
def yL{P Q:Prop}(p:P)(h:P->Q:=by intro kQ;exact da (N:=38) (l:=[.agg #[.bool a.neg,.string a.Qa,.int .i64 a.e],.agg #[.bool b.neg,.string b.Qa,.int .i64 b.e]]) func108 rfl rfl (by simp) kQ):Q:=h p
def PK{P Q:Prop}(p:P)(h:P->Q:=by intro kQ;exact Ca 3 [[(2,none)],[(5,some 0)],[(3,none)]] [(2,7),(1,6),(0,5)] hh mixed T' kQ):Q:=h p
def OL{P Q:Prop}(p:P)(h:P->Q:=by intro kQ;exact dC (λ_ hj=>Ln a _ Z' Z' Z') kQ):Q:=h p
def RM{P Q:Prop}(p:P)(h:P->Q:=by intro kQ;exact Oa hh (Ln b _ Z' Z' Z') rfl kQ):Q:=h p
def XV{P Q:Prop}(p:P)(h:P->Q:=by intro kQ;exact Ca 7 [[(2,none)],[(0,none)],[(26,some 1)],[(27,some 2)],[(1,none)],[(29,some 4)],[(30,some 5)]] [(6,31),(5,30),(4,29),(3,28),(2,27),(1,26),(0,25)] hh mixed T' kQ):Q:=h p
def NT{P Q:Prop}(p:P)(h:P->Q:=by intro kQ;exact Ea (Na (aa v31 (aa v30 (aa v29 (aa v28 (aa v27 (aa v26 (aa v25 Da)))))))) kQ):Q:=h p
def mV{P Q:Prop}(p:P)(h:P->Q:=by intro kQ;exact wb (vs:=[_,_,_,_]) ya.out rfl ((hr.ext hh.below).recAt TR.len hxx) rfl U' kQ):Q:=h p
def fF{P Q:Prop}(p:P)(h:P->Q:=by intro kQ;exact Bc hh (cs:=[_,_,_,_]) mb.out ya.out (Sb (Qd rfl) oe) rfl rfl U' U' U' rfl U' kQ):Q:=h p
def WT{P Q:Prop}(p:P)(h:P->Q:=by intro kQ;exact wb (vs:=[_,_,_,_]) ya.out rfl ((hr2.ext hh.below).recAt TR.len hyy) rfl U' kQ):Q:=h p
def JM{P Q:Prop}(p:P)(h:P->Q:=by intro kQ;exact Zh (hc _ hh.below) ja.out rfl rfl U' kQ):Q:=h p
def FG{P Q:Prop}(p:P)(h:P->Q:=by intro kQ;exact Mw hh mb.out ya.out U' kQ):Q:=h p
def zQ{P Q:Prop}(p:P)(h:P->Q:=by intro kQ;exact jn (h:=i) mb.out ya.size rfl rfl Z' Z' U' kQ):Q:=h p
def Lu{P Q:Prop}(p:P)(h:P->Q:=by intro kQ;exact SQ (td rfl (ud (vs:=[_,_]) ya.out (hh.qb (i:=0) (n:=2) rfl rfl) rfl) (mh (ej rfl) De)) kQ):Q:=h p
def kH{P Q:Prop}(p:P)(h:P->Q:=by intro kQ;exact SQ (td rfl (ud (vs:=[_,_]) ya.out (hh.qb (i:=1) (n:=2) rfl rfl) rfl) (mh (ej rfl) De)) kQ):Q:=h p
def UR{P Q:Prop}(p:P)(h:P->Q:=by intro kQ;exact da (N:=45) (l:=[.string a,.string b,.func (.func g) #[] #[]]) func329 rfl rfl (by simp) kQ):Q:=h p
def fR{P Q:Prop}(p:P)(h:P->Q:=by intro kQ;exact Ab hh (i:=1) (vs:=[_]) rfl rfl (Dc rfl) rfl ya.out rfl Z' rfl kQ):Q:=h p
def rn{P Q:Prop}(p:P)(h:P->Q:=by intro kQ;exact wb (vs:=[_,_,_,_]) ya.out rfl ((hr.ext hh.below).recAt TR.len hx) rfl U' kQ):Q:=h p
def NG{P Q:Prop}(p:P)(h:P->Q:=by intro kQ;exact cm (i:=9) rfl (λρ1 w1 hj hR=>(show ρ1 27=Value.bool _ from hR.2.1)) (λρ1 w1 hj hR=>pb ja.out (Ga (show ρ1 29=Value.agg (List.toArray _) from hR.1) Gb)) (λw1 hj=>hsg _) kQ):Q:=h p
def vM{P Q:Prop}(p:P)(h:P->Q:=by intro kQ;exact cm (i:=15) rfl (λρ1 w1 hj hR=>(show ρ1 33=Value.bool _ from hR.2.1)) (λρ1 w1 hj hR=>pb ja.out (Ga (show ρ1 35=Value.agg (List.toArray _) from hR.1) Gb)) (λw1 hj=>hfo _ (hT.hp hj.hp)) kQ):Q:=h p
def QT{P Q:Prop}(p:P)(h:P->Q:=by intro kQ;exact vD (i:=18) rfl (λρ1 w1 hj hR=>(show ρ1 33=Value.bool _ from hR.2.2.1)) (λρ1 w1 hj hR=>KB (show ρ1 36=Value.agg (List.toArray _) from hR.1) (show ρ1 38=Value.agg (List.toArray _) from hR.2.1) (by first|assumption|rfl)) kQ):Q:=h p
def ML{P Q:Prop}(p:P)(h:P->Q:=by intro kQ;exact Ea (Na (aa v53 (aa v52 (aa v51 (aa v50 (aa v49 (aa v48 (aa v47 (aa v46 (aa v45 (aa v44 (aa v43 (aa v42 (aa v41 (aa v40 (aa v39 (aa v38 (aa v37 (aa v36 (aa v35 (aa v34 (aa v33 (aa v32 (aa v31 (aa v30 (aa v29 (aa v28 (aa v27 (aa v26 (aa v25 (aa v24 (aa v23 (aa v22 (aa v21 Da)))))))))))))))))))))))))))))))))) kQ):Q:=h p
def TG{P Q:Prop}(p:P)(h:P->Q:=by intro kQ;exact ub ya.out rfl (vc hh.below hp) U' kQ):Q:=h p
def pU{P Q:Prop}(p:P)(h:P->Q:=by intro kQ;exact da (N:=25) (l:=[.int .i64 v,.slice A n c]) func129 rfl rfl (by simp) kQ):Q:=h p
def Pu{P Q:Prop}(p:P)(h:P->Q:=by intro kQ;exact aJ rfl (Ga (sJ rfl) Gb) U' kQ):Q:=h p
def aaJ{P Q:Prop}(p:P)(h:P->Q:=by intro kQ;exact Ca 6 [[(2,none)],[(4,some 0)],[(1,none)],[(6,some 2)],[(7,some 3)],[(8,some 4)]] [(5,9),(4,8),(3,7),(2,6),(1,5),(0,4)] hh mixed T' kQ):Q:=h p
def LG{P Q:Prop}(p:P)(h:P->Q:=by intro kQ;exact Vo (λ_ hj=>(hj.hp.below.cell (rv hp)).trans hp) kQ):Q:=h p
def eF{P Q:Prop}(p:P)(h:P->Q:=by intro kQ;exact wb (vs:=[_,_]) ya.out rfl ((hr.ext hh.below).recAt PX.len hx) rfl U' kQ):Q:=h p
def Jy{P Q:Prop}(p:P)(h:P->Q:=by intro kQ;exact Oa hh (hc _ (hT.hp hh) hh.below) rfl kQ):Q:=h p
def OS{P Q:Prop}(p:P)(h:P->Q:=by intro kQ;exact da (N:=22) (l:=[.agg s.cells.toArray,.agg #[.bool a.neg,.string a.Qa,.int .i64 a.e]]) func78 rfl rfl (by simp) kQ):Q:=h p
def KM{P Q:Prop}(p:P)(h:P->Q:=by intro kQ;exact Oa hh (qx s _ (hT.hp hh) ⟨hs.1.ok,hs.2.ok⟩) rfl kQ):Q:=h p
def Pq{P Q:Prop}(p:P)(h:P->Q:=by intro kQ;exact ub ya.out rfl ((hr.ext hh.below).jw hgi) U' kQ):Q:=h p
def Tz{P Q:Prop}(p:P)(h:P->Q:=by intro kQ;exact da (N:=29) (l:=[.agg #[.slice A n c,.slice B m c2]]) func96 rfl rfl (by simp) kQ):Q:=h p
def HK{P Q:Prop}(p:P)(h:P->Q:=by intro kQ;exact Oa hh (Pe A n c ds _ (hS.ext hh.below) hn) rfl kQ):Q:=h p
def tT{P Q:Prop}(p:P)(h:P->Q:=by intro kQ;exact Ca 6 [[(1,none)],[(19,some 0)],[(20,some 1)],[(1,none)],[(22,some 3)],[(23,some 4)]] [(5,24),(4,23),(3,22),(2,21),(1,20),(0,19)] hh mixed T' kQ):Q:=h p
def KV{P Q:Prop}(p:P)(h:P->Q:=by intro kQ;exact Ea (Na (aa v24 (aa v23 (aa v22 (aa v21 (aa v20 (aa v19 Da))))))) kQ):Q:=h p
def Un{P Q:Prop}(p:P)(h:P->Q:=by intro kQ;exact Bc hh (cs:=[_,_,_]) mb.out ya.out (Sb (Qd rfl) oe) rfl rfl U' U' U' rfl U' kQ):Q:=h p
def gN{P Q:Prop}(p:P)(h:P->Q:=by intro kQ;exact Hb hh (i:=5) rfl rfl rfl (hh.ra (i:=0) rfl) mb.out ya.out rfl U' (by first|rfl|exact ic _|exact Ob _|exact Pa _|exact Ta NR.one _) Z' Z' U' kQ):Q:=h p
def SL{P Q:Prop}(p:P)(h:P->Q:=by intro kQ;exact pd (k:=(n-1-k)) mb.out ya.size rfl rfl Z' Z' U' kQ):Q:=h p
def fH{P Q:Prop}(p:P)(h:P->Q:=by intro kQ;exact ub ya.out rfl ((s1.ext hh.below).jw (by assumption)) U' kQ):Q:=h p
def HS{P Q:Prop}(p:P)(h:P->Q:=by intro kQ;exact Ab hh (i:=3) (vs:=[_,_,_]) rfl rfl (Qd rfl) rfl ya.out rfl Z' rfl kQ):Q:=h p
def wU{P Q:Prop}(p:P)(h:P->Q:=by intro kQ;exact VN (td rfl (ud (vs:=[_,_]) ya.out (hh.qb (i:=2) (n:=2) rfl rfl) rfl) De) kQ):Q:=h p
def aa6{P Q:Prop}(p:P)(h:P->Q:=by intro kQ;exact Ca 8 [[(2,none)],[(4,some 0)],[(5,some 1)],[(1,none)],[(7,some 3)],[(8,some 4)],[(9,some 5)],[(10,some 6)]] [(7,11),(6,10),(5,9),(4,8),(3,7),(2,6),(1,5),(0,4)] hh mixed T' kQ):Q:=h p
def Vx{P Q:Prop}(p:P)(h:P->Q:=by intro kQ;exact wb (vs:=[_,_]) ya.out rfl ((hr.ext hh.below).recAt FX.len hx) rfl U' kQ):Q:=h p
def JV{P Q:Prop}(p:P)(h:P->Q:=by intro kQ;exact pd (k:=m) mb.out ya.size rfl rfl Z' Z' U' kQ):Q:=h p
def gQ{P Q:Prop}(p:P)(h:P->Q:=by intro kQ;exact da (N:=66) (l:=[.agg #[.slice f.A f.n f.a,.slice f.B f.m f.b],.slice E q cE]) func226 rfl rfl (by simp) kQ):Q:=h p
def eh{P Q:Prop}(p:P)(h:P->Q:=by intro kQ;exact Oa hh (hck _ (hT.hp hh) hh.below) rfl kQ):Q:=h p
def Yk{P Q:Prop}(p:P)(h:P->Q:=by intro kQ;exact SQ (td rfl (ud (vs:=[_,_]) ya.out (hh.qb (i:=2) (n:=2) rfl rfl) rfl) (mh (ej rfl) De)) kQ):Q:=h p
def tB{P Q:Prop}(p:P)(h:P->Q:=by intro kQ;exact Oa hh (hlk _ (hT.hp hh) hh.below) rfl kQ):Q:=h p
def RL{P Q:Prop}(p:P)(h:P->Q:=by intro kQ;exact pd (k:=j) mb.out ya.size mm rfl Z' Z' U' kQ):Q:=h p
def Zj{P Q:Prop}(p:P)(h:P->Q:=by intro kQ;exact Bc hh (cs:=[_,_]) mb.out ya.out (Sb (Qd rfl) oe) rfl rfl U' U' U' rfl U' kQ):Q:=h p
def CS{P Q:Prop}(p:P)(h:P->Q:=by intro kQ;exact Ia rfl rfl U' (bg mb.out ya.size rfl rfl (l:=1) rfl Z' Z') kQ):Q:=h p
def CU{P Q:Prop}(p:P)(h:P->Q:=by intro kQ;exact pd (k:=i) mb.out ya.size mm rfl Z' Z' U' kQ):Q:=h p
def aaP{P Q:Prop}(p:P)(h:P->Q:=by intro kQ;exact da (N:=38) (l:=[.agg #[.slice fx.A fx.n fx.a,.slice fx.B fx.m fx.b],.agg #[.bool c.neg,.string c.Qa,.int .i64 c.e]]) func223 rfl rfl (by simp) kQ):Q:=h p
def ju{P Q:Prop}(p:P)(h:P->Q:=by intro kQ;exact wb (vs:=[_,_,_,_,_,_]) ya.out rfl ((hr.ext hh.below).recAt SR.len hs) rfl U' kQ):Q:=h p
def eL{P Q:Prop}(p:P)(h:P->Q:=by intro kQ;exact Bc hh (cs:=[_,_,_,_,_,_]) mb.out ya.out (Sb (Qd rfl) oe) rfl rfl U' U' U' rfl U' kQ):Q:=h p
def Uy{P Q:Prop}(p:P)(h:P->Q:=by intro kQ;exact Hb hh (i:=2) rfl rfl rfl (hh.ra (i:=0) rfl) mb.out ya.out rfl U' (by first|rfl|exact ic _|exact Ob _|exact Pa _|exact Ta NR.one _) Z' Z' U' kQ):Q:=h p
def DZ{P Q:Prop}(p:P)(h:P->Q:=by intro kQ;exact Ca 5 [[(6,none)],[(1,none)],[(5,none)],[(20,some 1),(21,some 2)],[(22,some 3)]] [(4,23),(3,22),(2,21),(1,20),(0,19)] hh mixed T' kQ):Q:=h p
def yT{P Q:Prop}(p:P)(h:P->Q:=by intro kQ;exact Ca 9 [[(3,none)],[(13,some 0)],[(14,some 1)],[(5,none),(15,some 2)],[(16,some 3),(15,some 2)],[(0,none),(15,some 2)],[(3,none),(15,some 2)],[(18,some 5),(19,some 6),(15,some 2)],[(20,some 7),(15,some 2)]] [(8,21),(7,20),(6,19),(5,18),(4,17),(3,16),(2,15),(1,14),(0,13)] hh mixed T' kQ):Q:=h p
def jQ{P Q:Prop}(p:P)(h:P->Q:=by intro kQ;exact Ea (Na (aa v21 (aa v20 (aa v19 (aa v18 (aa v17 (aa v16 (aa v15 (aa v14 (aa v13 Da)))))))))) kQ):Q:=h p
def aai{P Q:Prop}(p:P)(h:P->Q:=by intro kQ;exact cm (i:=4) rfl (λρ1 w1 hj hR=>(show ρ1 15=Value.bool _ from hR.2.1)) (λρ1 w1 hj hR=>pb ja.out (Ga (show ρ1 16=Value.agg (List.toArray _) from hR.1) Gb)) (λw1 hj=>hc1 _ (hT.hp hj.hp)) kQ):Q:=h p
def nV{P Q:Prop}(p:P)(h:P->Q:=by intro kQ;exact da (N:=58) (l:=[.agg #[.int .i64 p.v,.slice p.A p.n p.c],.slice L n c,.slice M m mc]) func162 rfl rfl (by simp) kQ):Q:=h p
def DF{P Q:Prop}(p:P)(h:P->Q:=by intro kQ;exact ub ya.out rfl ((hr.ext hh.below).jw hy2) U' kQ):Q:=h p
def lH{P Q:Prop}(p:P)(h:P->Q:=by intro kQ;exact Hb hh (i:=3) rfl rfl rfl (hh.ra (i:=0) rfl) mb.out ya.out rfl U' (by first|rfl|exact ic _|exact Ob _|exact Pa _|exact Ta NR.one _) Z' Z' U' kQ):Q:=h p
def NL{P Q:Prop}(p:P)(h:P->Q:=by intro kQ;exact SQ (td rfl (ud (vs:=[_,_]) ya.out (hh.qb (i:=3) (n:=2) rfl rfl) rfl) (mh (ej rfl) De)) kQ):Q:=h p
def xU{P Q:Prop}(p:P)(h:P->Q:=by intro kQ;exact Va (i:=10) (Ic _ 24 _) Ic.ext (λρ1 w1 hj hR=>Si ya.out hj.bl (λv w2 h hb=>⟨hb,h⟩)) kQ):Q:=h p
def WV{P Q:Prop}(p:P)(h:P->Q:=by intro kQ;exact Ca 12 [[(5,none)],[(0,none)],[(8,some 1)],[(7,some 0),(9,some 2)],[(10,some 3)],[(0,none),(11,some 4)],[(5,none),(11,some 4)],[(12,some 5),(13,some 6),(11,some 4)],[(14,some 7),(11,some 4)],[(15,some 8),(11,some 4)],[(3,none),(11,some 4)],[(17,some 10),(11,some 4)]] [(11,18),(10,17),(9,16),(8,15),(7,14),(6,13),(5,12),(4,11),(3,10),(2,9),(1,8),(0,7)] hh mixed T' kQ):Q:=h p
def bL{P Q:Prop}(p:P)(h:P->Q:=by intro kQ;exact dG (Vo (λ_ hj=>((hr.ext hj.hp.below).recAt TR.len ht).cell (i:=0) rfl) kQ)):Q:=h p
def wV{P Q:Prop}(p:P)(h:P->Q:=by intro kQ;exact Ea (Na (aa v18 (aa v17 (aa v16 (aa v15 (aa v14 (aa v13 (aa v12 (aa v11 (aa v10 (aa v9 (aa v8 (aa v7 Da))))))))))))) kQ):Q:=h p
def iS{P Q:Prop}(p:P)(h:P->Q:=by intro kQ;exact Ca 12 [[(5,none)],[(0,none)],[(29,some 1)],[(28,some 0),(30,some 2)],[(31,some 3)],[(0,none),(32,some 4)],[(5,none),(32,some 4)],[(33,some 5),(34,some 6),(32,some 4)],[(35,some 7),(32,some 4)],[(36,some 8),(32,some 4)],[(3,none),(32,some 4)],[(38,some 10),(32,some 4)]] [(11,39),(10,38),(9,37),(8,36),(7,35),(6,34),(5,33),(4,32),(3,31),(2,30),(1,29),(0,28)] hh mixed T' kQ):Q:=h p
def BQ{P Q:Prop}(p:P)(h:P->Q:=by intro kQ;exact Ea (Na (aa v39 (aa v38 (aa v37 (aa v36 (aa v35 (aa v34 (aa v33 (aa v32 (aa v31 (aa v30 (aa v29 (aa v28 Da))))))))))))) kQ):Q:=h p
def aa1{P Q:Prop}(p:P)(h:P->Q:=by intro kQ;exact Ca 8 [[(6,none)],[(3,none)],[(63,some 1)],[(3,none)],[(65,some 3)],[(66,some 4)],[(64,some 2),(67,some 5)],[(68,some 6)]] [(7,69),(6,68),(5,67),(4,66),(3,65),(2,64),(1,63),(0,62)] hh mixed T' kQ):Q:=h p
def aaA{P Q:Prop}(p:P)(h:P->Q:=by intro kQ;exact Ea (Na (aa e69 (aa v68 (aa v67 (aa v66 (aa v65 (aa v64 (aa v63 (aa v62 Da))))))))) kQ):Q:=h p
def P0{P Q:Prop}(p:P)(h:P->Q:=by intro kQ;exact Hb hh (i:=0) rfl rfl rfl (f69) mb.out ya.out rfl U' (by first|rfl|exact ic _|exact Ob _|exact Pa _|exact Ta NR.one _) Z' Z' U' kQ):Q:=h p
def j0{P Q:Prop}(p:P)(h:P->Q:=by intro kQ;exact wb (vs:=[_,_,_]) ya.out rfl ((hh.Jd (f:=TR.cells) (x:=t) (l:=G) (i:=1) rfl TR.len U' ht).drop 1) rfl U' kQ):Q:=h p
def XK{P Q:Prop}(p:P)(h:P->Q:=by intro kQ;exact ub ya.out rfl (((hr.ext hh.below).recAt TR.len hx).cell (i:=0) rfl) U' kQ):Q:=h p
def AZ{P Q:Prop}(p:P)(h:P->Q:=by intro kQ;exact da (N:=42) (l:=[.agg #[.int .i64 p.v,.slice p.A p.n p.c],.agg #[.bool c.neg,.string c.Qa,.int .i64 c.e]]) func234 rfl rfl (by simp) kQ):Q:=h p
def tN{P Q:Prop}(p:P)(h:P->Q:=by intro kQ;exact ub ya.out rfl (hh.Uf (i:=0) rfl (by first|assumption|(simp only[H_];assumption))) U' kQ):Q:=h p
def FM{P Q:Prop}(p:P)(h:P->Q:=by intro kQ;exact ub ya.out rfl ((hh.below.cell (rv hp)).trans hp) U' kQ):Q:=h p
def MZ{P Q:Prop}(p:P)(h:P->Q:=by intro kQ;exact Ia rfl rfl U' (ach mb.out ya.size rfl rfl rfl rfl (l:=a) (h:=a+1) (q:=n) rfl Z' rfl Z' Z' Z' Z') kQ):Q:=h p
def aas{P Q:Prop}(p:P)(h:P->Q:=by intro kQ;exact Ca 6 [[(0,none)],[(1,none)],[(20,some 0),(21,some 1)],[(0,none)],[(2,none)],[(23,some 3),(24,some 4)]] [(5,25),(4,24),(3,23),(2,22),(1,21),(0,20)] hh mixed T' kQ):Q:=h p
def PZ{P Q:Prop}(p:P)(h:P->Q:=by intro kQ;exact Wa (i:=2) (λρ1 w1 hj hR=>vy (h:=a) mb.out ya.size (show ρ1 20=Value.slice _ _ _ from hR.1) (show ρ1 21=Value.int _ _ from hR.2.1) Z' Z') kQ):Q:=h p
def aan{P Q:Prop}(p:P)(h:P->Q:=by intro kQ;exact Wa (i:=5) (λρ1 w1 hj hR=>bg (l:=(a+1)) mb.out ya.size (show ρ1 23=Value.slice _ _ _ from hR.1) (show ρ1 24=Value.int _ _ from hR.2.1) Z' Z' Z') kQ):Q:=h p
def pL{P Q:Prop}(p:P)(h:P->Q:=by intro kQ;exact Ea (Na (aa v25 (aa v24 (aa v23 (aa v22 (aa v21 (aa v20 Da))))))) kQ):Q:=h p
def aay{P Q:Prop}(p:P)(h:P->Q:=by intro kQ;exact Ca 6 [[(8,none)],[(3,none)],[(21,some 1)],[(20,some 0),(22,some 2)],[(3,none)],[(24,some 4)]] [(5,25),(4,24),(3,23),(2,22),(1,21),(0,20)] hh mixed T' kQ):Q:=h p
def aaT{P Q:Prop}(p:P)(h:P->Q:=by intro kQ;exact Wa (i:=3) (λρ1 w1 hj hR=>Zs (show ρ1 20=Value.int _ _ from hR.1) (show ρ1 22=Value.int _ _ from hR.2.1) Z' Z' Z') kQ):Q:=h p
def DE{P Q:Prop}(p:P)(h:P->Q:=by intro kQ;exact Bc hh (cs:=[_]) mb.out ya.out (Sb (dp rfl) oe) rfl rfl U' U' U' rfl U' kQ):Q:=h p
def Qm{P Q:Prop}(p:P)(h:P->Q:=by intro kQ;exact Sd (k:=k) mb.out ya.size rfl rfl Z' Z' U' kQ):Q:=h p
def VM{P O Q:Prop}(p:P)(o:O)(h:P->O->Q:=by intro kQ lQ;exact Qs (i:=3) (i2:=17) T' rfl rfl kQ lQ):Q:=h p o
def EA{P Q:Prop}(p:P)(h:P->Q:=by intro kQ;exact Ae (i:=17) T' rfl kQ):Q:=h p
def QK{P Q:Prop}(p:P)(h:P->Q:=by intro kQ;exact Vo (λ_ hj=>hE.ld (hj.hp.sub (.cons _ (.cons _ (A_ _))))) kQ):Q:=h p
def CT{P Q:Prop}(p:P)(h:P->Q:=by intro kQ;exact Hb hh (i:=4) rfl rfl rfl (hh.ra (i:=0) rfl) mb.out ya.out rfl U' (by first|rfl|exact ic _|exact Ob _|exact Pa _|exact Ta NR.one _) Z' Z' U' kQ):Q:=h p
def fW{P Q:Prop}(p:P)(h:P->Q:=by intro kQ;exact da (N:=137) (l:=[.slice L n c,.slice B m cb,.agg #[.bool tol.neg,.string tol.Qa,.int .i64 tol.e],.int .i64 p,.int .i64 bu]) func21 rfl rfl (by simp) kQ):Q:=h p
def ZQ{P Q:Prop}(p:P)(h:P->Q:=by intro kQ;exact Bc hh (cs:=[_,_,_,_,_]) mb.out ya.out (Sb (Qd rfl) oe) rfl rfl U' U' U' rfl U' kQ):Q:=h p
def eN{P Q:Prop}(p:P)(h:P->Q:=by intro kQ;exact da (N:=18) (l:=[.agg #[.bool a.neg,.string a.Qa,.int .i64 a.e]]) func55 rfl rfl (by simp) kQ):Q:=h p
def BZ{P Q:Prop}(p:P)(h:P->Q:=by intro kQ;exact da (N:=49) (l:=[.slice B m d,.agg #[.bool eps.neg,.string eps.Qa,.int .i64 eps.e],.int .i64 g,.int .i64 bu]) func15 rfl rfl (by simp) kQ):Q:=h p
def AQ{P Q:Prop}(p:P)(h:P->Q:=by intro kQ;exact ub ya.out rfl (((hr.ext hh.below).recAt PX.len hpi).cell (i:=1) (v:=.slice A pn pc) rfl) U' kQ):Q:=h p
def QS{P Q:Prop}(p:P)(h:P->Q:=by intro kQ;exact ub ya.out rfl (((hr.ext hh.below).recAt PX.len hpi).cell (i:=1) (v:=.slice (some at2) pn pc) rfl) U' kQ):Q:=h p
def Vz{P Q:Prop}(p:P)(h:P->Q:=by intro kQ;exact Oa hh (Gg 2 _ U' U') rfl kQ):Q:=h p
def lT{P Q:Prop}(p:P)(h:P->Q:=by intro kQ;exact qa (El (0) 0 1 K3 _ U' U' U' (by decide+kernel)) ja.out rfl U' kQ):Q:=h p
def fT{P Q:Prop}(p:P)(h:P->Q:=by intro kQ;exact qa (qk ((-1)) 1 _ U' U') ja.out rfl U' kQ):Q:=h p
def aaf{P Q:Prop}(p:P)(h:P->Q:=by intro kQ;exact al [2] [0,1,0,3,15,31] 3 [[(4,none)],[(48,some 0)],[(5,none)]] [(2,50),(1,49),(0,48)] [([],3,[(1,49),(0,48)]),([2],2,[(2,50),(1,49),(0,48)])] hh mixed T' T' U' kQ):Q:=h p
def sZ{P Q:Prop}(p:P)(h:P->Q:=by intro kQ;exact Ca 14 [[(11,none)],[(9,none)],[(48,some 1)],[(47,some 0),(49,some 2)],[(9,none)],[(51,some 4)],[(50,some 3),(52,some 5)],[(3,none)],[(54,some 7)],[(1,none)],[(55,some 8),(56,some 9)],[(57,some 10)],[(2,none)],[(58,some 11),(59,some 12)]] [(13,60),(12,59),(11,58),(10,57),(9,56),(8,55),(7,54),(6,53),(5,52),(4,51),(3,50),(2,49),(1,48),(0,47)] hh mixed T' kQ):Q:=h p
def Q0{P Q:Prop}(p:P)(h:P->Q:=by intro kQ;exact Wa (i:=3) (λρ1 w1 hj hR=>Zs (show ρ1 47=Value.int _ _ from hR.1) (show ρ1 49=Value.int _ _ from hR.2.1) Z' Z' Z') kQ):Q:=h p
def O0{P Q:Prop}(p:P)(h:P->Q:=by intro kQ;exact Wa (i:=6) (λρ1 w1 hj hR=>Hn (show ρ1 50=Value.int _ _ from hR.1) (show ρ1 52=Value.int _ _ from hR.2.1) Z' Z') kQ):Q:=h p
def OZ{P Q:Prop}(p:P)(h:P->Q:=by intro kQ;exact Ea (Na (aa v60 (aa v59 (aa v58 (aa v57 (aa v56 (aa v55 (aa v54 (aa v53 (aa v52 (aa v51 (aa v50 (aa v49 (aa v48 (aa v47 Da))))))))))))))) kQ):Q:=h p
def JZ{p:Prop}(h:p:=by
  refine Lb ?_;intro ws hh;refine Yk ?_;exact sY):p:=h
def aaq{p:Prop}(h:p:=by
  refine Ab hh (i:=3) (vs:=[_]) rfl rfl (dp rfl) rfl ya.out rfl Z' rfl ?_;intro ws hh;simp only[U_,G_] at hh;exact zW2):p:=h
def VZ{p:Prop}(h:p:=by
  refine Zc ?_;refine Ae (i:=2) T' rfl ?_;refine tf hh 3 [_,_] ?_;intro ws hh;replace hh:Hp _ (_::_::_::.blk _ _ [_,_] _::_) _:=hh;exact K0):p:=h
def aad{p:Prop}(h:p:=by
  refine fa ?_;refine Fp (b:=1) rfl rfl Z' U' ?_;refine fa ?_;refine Ze rfl rfl U' ?_;refine fa ?_;rw[hqd,hdn];refine⟨⟨rfl,hh⟩, ?_⟩;exact Sc):p:=h
def IZ{p:Prop}(h:p:=by
  refine fa ?_;refine Fp (b:=1) rfl rfl Z' U' ?_;refine fa ?_;refine Ze rfl rfl U' ?_;refine fa ?_;rw[hqd,hrd];refine⟨⟨q-1,rh+y1,rfl,rfl,hI2,hr3,hh⟩,by show((q-1:Nat):Int).toNat<(q:Int).toNat;omega, ?_⟩;exact Sc):p:=h
def L0{p:Prop}(h:p:=by
  refine Zc ?_;refine Ae (i:=3) T' rfl ?_;refine Lk hh 3 [_,_] ?_;exact ae7):p:=h
def aaI{p:Prop}(h:p:=by
  refine⟨⟨i+1,_,Z',rfl,hS3.symm,hh⟩,by show n-(i+1)<n-i;omega, ?_⟩;exact Sc):p:=h
def aax{p:Prop}(h:p:=by
  exact⟨_,_,by rw[e1],by rw[e1,e2];exact hh.sub (I' _ (R9 _))⟩):p:=h
def gR{p:Prop}(h:p:=by
  dsimp only[Cb];clear hJ;refine fa ?_;exact⟨rfl,hh.below⟩):p:=h
def abb{p:Prop}(h:p:=by
  refine mB ?_;refine gS ?_;refine Ri U' rfl rfl U' ?_;refine gS ?_;refine pkT ?_;exact aew):p:=h
def tZ{p:Prop}(h:p:=by
  refine Cq ?_;exact⟨rfl,hh.below⟩):p:=h
def S0{p:Prop}(h:p:=by
  refine da (N:=38) (l:=[.int .i64 v,.slice A n c]) func93 rfl rfl (by simp) ?_;refine Tb ?_;intro b4 w4 hh ws hh;exact iY):p:=h
def aaz{p:Prop}(h:p:=by
  refine Mj mb.out rfl rfl U' ?_;refine fa ?_;refine Oa hh (hng _) rfl ?_;intro w47 hh;refine Lb ?_;intro ws hh;exact zW3):p:=h
def oQ{p:Prop}(h:p:=by
  exact⟨PX.nil,tg.err U',rfl,(hh.sub (R9 _)).cS⟩):p:=h
def aam{p:Prop}(h:p:=by
  refine⟨⟨i,_,_,Z',rfl,by rw[d1];rfl,by rw[d1];exact hh⟩,by show((i:Int)-1+1).toNat<((i:Int)+1).toNat;omega, ?_⟩;exact Sc):p:=h
def U0{p:Prop}(h:p:=by
  refine pr ?_;refine dS (dS (dS (dS (dS ?_))));refine Co (i:=18) rfl (λρ1 w1 hj hR=>(show ρ1 33=Value.bool _ from hR.2.2.1)) U' ?_;refine dpT ?_;exact zW8):p:=h
def o0{p:Prop}(h:p:=by
  refine Lb ?_;intro ws hh;refine SQ (td rfl (ud (vs:=[_,_,_]) ya.out (hh.qb (i:=0) (n:=3) rfl rfl) rfl) (mh (ej rfl) De)) ?_;exact⟨rfl,hh.below⟩):p:=h
def aaB{p:Prop}(h:p:=by
  refine Zc ?_;refine Ae (i:=2) T' rfl ?_;refine tf hh 4 [_,_] ?_;intro ws hh;replace hh:Hp _ (_::_::_::_::.blk _ _ [_,_] _::_) _:=hh;exact aee):p:=h
def JR{p:Prop}(h:p:=by
  refine⟨_,rfl, ?_⟩;replace hh:=hh.join h3;simp only[C',E'] at hh;exact MQ):p:=h
def aa9{p:Prop}(h:p:=by
  refine Lb ?_;intro ws hh;replace hh:=hh.sub (s_ _ _);refine⟨⟨i+1,_,_,Z',rfl,hS3.symm,hpl,by unfold IR.v at hba |-;omega,hh⟩,by show n-(i+1)<n-i;omega, ?_⟩;exact Sc):p:=h
def aaE{p:Prop}(h:p:=by
  simp only[K8,m9,Q_,z7];refine⟨h2,F6.2 λe he=> ?_⟩
  cases hb:Region.binds .any e with
  |false=>simp
  |true=>simpa[hb] using h3 e he hb):p:=h
def sS{p:Prop}(h:p:=by
  intro A7 c7 w7 hh;simp only[U_] at hh;rw[C_] at hh |-;rw[E'] at hh;exact HC):p:=h
def aaR{p:Prop}(h:p:=by
  replace hh:=hh.sub (p' _ (I' _ (I' _ I_)));refine⟨⟨i+1,Z',rfl,by rw[hst];exact hh⟩,by show n-1-(i+1)<n-1-i;omega, ?_⟩;exact Sc):p:=h
def TZ{p:Prop}(h:p:=by
  have hik:i=k:=by
   obtain h|h:=Z9 i k
   .exact absurd ⟨i,h,h2,h3⟩ hex
   omega
  subst hik;refine⟨i,h2,h3,λj hj=> ?_⟩
  cases hc2:L.getD j false with
  |true=>rfl
  |false=>exact absurd ⟨j,hj,Z',hc2⟩ hex):p:=h
def aaN{p:Prop}(h:p:=by
  have h1:L.toList.countP (λb=>b)=L.toList.length:=(by have:=hI.ls;simp only[Array.length_toList];omega);have h2:=List.countP_eq_length.1 h1;have h3:i<L.size:=by rw[hI.ls,hnn];exact hi
  have:=h2 L[i] (by simp);simpa[h3] using this):p:=h
def XM{p:Prop}(h:p:=by
  refine⟨⟨i+1,Z',rfl,hh⟩,by show(n-m/64)-(i+1)<(n-m/64)-i;omega, ?_⟩;exact Sc):p:=h
def aaj{p:Prop}(h:p:=by
  refine qa (hpu _ (hT.hp hh) hh.below) ja.out rfl U' ?_;rintro e_ w51 ⟨g,og,rfl,h3⟩;refine⟨_,rfl, ?_⟩;replace hh:=hh.join h3;simp only[C',E'] at hh;exact JZ):p:=h
def QZ{p:Prop}(h:p:=by
  obtain⟨c,hc⟩:=ea (l:=s.data.toList) (k:=k) (by rw[<-Yc];exact hlt);have hb:=c.toNat_lt;by_cases h8:c.toNat<128
  .refine fa ?_;refine⟨⟨k+1,Z',rfl,by rw[oa hc,TN,hm];simpa using h8,rfl⟩,by show s.size-(k+1)<s.size-k;omega, ?_⟩;exact Sc
  refine fa ?_;rw[HU hc h8];exact⟨rfl,Below.refl _ _⟩):p:=h
def tL{p:Prop}(h:p:=by
  refine da (N:=19) (l:=[.agg #[.int .i64 p.v,.slice p.A p.n p.c],.int .i64 i]) func266 rfl rfl (by simp) ?_;exact ad4):p:=h
def aao{p:Prop}(h:p:=by
  refine Zc ?_;refine Xg 4 U' T' U' T' T' ?_;refine Lb ?_;intro ws hh;refine qc3 (td rfl (ud (vs:=[_,_]) ya.out (hh.qb (i:=2) (n:=2) rfl rfl) rfl) (td rfl (ud (vs:=[_,_]) ya.out (hh.qb (i:=1) (n:=2) rfl rfl) rfl) (mh (Fk rfl) De))) ?_;exact⟨_,_,rfl,hh.below⟩):p:=h
def F0{p:Prop}(h:p:=by
  refine Zc ?_;refine Xg 4 U' T' U' T' T' ?_;refine Lb ?_;intro ws hh;refine qc3 (td rfl (ud (vs:=[_,_]) ya.out (hh.qb (i:=1) (n:=2) rfl rfl) rfl) (td rfl (ud (vs:=[_,_]) ya.out (hh.qb (i:=0) (n:=2) rfl rfl) rfl) (mh (Fk rfl) De))) ?_;exact⟨_,_,rfl,hh.below⟩):p:=h
def xZ{p:Prop}(h:p:=by
  have hq:q<4294967296:=Z';have hdn:=eB b1 b0 hI Z';rw[<-hyy] at hdn;have hqy:=hqy hq;refine fa ?_;refine Tf rfl rfl U' ?_;refine fa ?_;refine Tf (a:=4294967296) rfl rfl U' ?_;refine fa ?_;refine Ze rfl rfl U' ?_;refine fa ?_;refine⟨⟨J_ (λn:Nat=>Value.int IntKind.u64 n) hdn,hh⟩, ?_⟩;exact Sc):p:=h
def UT{p:Prop}(h:p:=by
  refine da (N:=34) (l:=[.int .i64 v,.int .i64 x]) func233 rfl rfl (by simp) ?_;refine Lb ?_;intro b4 w4 hh;refine Oa hh (hfw _) rfl ?_;intro w8 hh;refine Lb ?_;intro ws hh;exact iY):p:=h
def yZ{p:Prop}(h:p:=by
  refine fa ?_;refine wb (vs:=[_,_,_]) ya.out rfl ((hr.ext hh.below).recAt NR.len ha) rfl U' ?_;refine Tb ?_;intro b5 w5 hh ws hh;refine Oa hh (Qc a _) rfl ?_;intro w14 hh;generalize a.i.sign=g at*;refine fa ?_;refine⟨⟨i+1,g,Z',rfl,rfl,hs0,Z',Z',hh.sub (R9 _)⟩,by show n-(i+1)<n-i;omega, ?_⟩;exact Sc):p:=h
def aaQ{p:Prop}(h:p:=by
  refine Tb ?_;intro b4 w4 hh ws hh;refine Jy ?_;intro w13 hh;refine fa ?_;replace hh:=hh.sub (p' _ (I' _ I_));refine⟨⟨i+1,Z',rfl,by rw[oa hx,g7,hall,y7,T6,O_ Z'];rfl,hh⟩,by show n-(i+1)<n-i;omega, ?_⟩;exact Sc):p:=h
def aau{p:Prop}(h:p:=by
  refine pU ?_;refine Tb ?_;intro b2 w2 hh b4 w4 hh;refine Oa hh (hfw _) rfl ?_;intro w7 hh;refine fa ?_;refine Pu ?_;refine fa ?_;refine Oa hh (han _ _ hh.below (hh.Uf (i:=1) (o:=0) rfl rfl)) rfl ?_;intro w12 hh;refine Lb ?_;intro ws hh;exact iY):p:=h
def SK{p:Prop}(h:p:=by
  refine da (N:=20) (l:=[.agg #[.slice fx.A fx.n fx.a,.slice fx.B fx.m fx.b],.int .i64 ax]) func195 rfl rfl (by simp) ?_;exact ad4):p:=h
def Hy{p:Prop}(h:p:=by
  refine⟨⟨i+1,Z',rfl,hh⟩,by show n-(i+1)<n-i;omega, ?_⟩;exact Sc):p:=h
def NZ{p:Prop}(h:p:=by
  have hil:i<l.length:=Z';have hE:=hedge i hil;have ho:l.toArray[i]?=some l[i]:=by simp[hil]
  rw[ho] at hE;have hmem:i∈Region.ready .any l.toArray L:=(hready_spec i).2 ⟨hil,by
   have h3:i<L.size:=by rw[hI.ls,hnn];exact hil
   rw[B9] at hu |-;rw[a6 h3] at hu |-;simpa using hu,l[i],ho,λe he hb=>by
   have:=F6.1 hE e he;simp only[hb,D6,f_,K_] at this;exact hlow _ this⟩
  rw[hnil] at hmem
  cases hmem):p:=h
def aaU{p:Prop}(h:p:=by
  refine Ze rfl rfl U' ?_;refine fa ?_;refine iT ?_;refine fa ?_;refine cU ?_;intro ws hh;simp only[U_] at hh;rw[hand,es,H_,sc (by rw[hll];omega),Xr,<-b1,hfk] at hh;refine fa ?_;refine om (s:=1) (m:=2) rfl rfl U' U' U' ?_;refine fa ?_;rw[es];refine⟨⟨i+1,Z',rfl,by rw[b2];rfl,hh⟩,by show K-(i+1)<K-i;omega, ?_⟩;exact Sc):p:=h
def uZ{p:Prop}(h:p:=by
  intro w24 hh;refine Oa hh (hs _ (hT.hp hh)) rfl ?_;intro w25 hh;refine Un ?_;intro b26 w26 hh;refine Er ?_;intro A27 c27 w27 hh;simp only[U_,G_] at hh;replace hh:=hh.sub (s_ _ _);refine fa ?_;refine⟨⟨i+1,c27,A27,Z',rfl,rfl, ?_⟩,by show n-(i+1)<n-i;omega, ?_⟩
  .rw[he,Ma];exact hh
  exact Sc):p:=h
def aa3{p:Prop}(h:p:=by
  refine Un ?_;intro b43 w43 hh;refine Uy ?_;intro A44 c44 w44 hh;simp only[U_,G_] at hh;replace hh:=hh.sub (s_ _ _);refine fa ?_;replace hh:=hh.sub (p' _ (I' _ (I' _ (A_ _))));refine⟨⟨k+1,c44,A44,Z',rfl,rfl,by rw[hst,hco,Ma];exact hh⟩,by show n-(k+1)<n-k;omega, ?_⟩;exact Sc):p:=h
def K0{p:Prop}(h:p:=by
  refine Zc ?_;refine Xg 3 U' T' U' T' T' ?_;refine tf hh 2 [_,_] ?_;intro ws hh;replace hh:Hp _ (_::_::.blk _ _ [_,_] _::_) _:=hh;refine aB (sa (jj ?_));refine qc3 (td rfl (ud (vs:=[_,_]) ya.out (hh.qb (i:=3) (n:=2) rfl rfl) rfl) (td rfl (ud (vs:=[_,_]) ya.out (hh.qb (i:=2) (n:=2) rfl rfl) rfl) (mh (Fk rfl) De))) ?_;exact⟨rfl,hh.below⟩):p:=h
def yK{p:Prop}(h:p:=by
  refine Ab hh (i:=3) (vs:=[_]) rfl rfl (dp rfl) rfl ya.out rfl Z' rfl ?_;intro ws hh;simp only[U_,G_] at hh;refine Zc ?_;refine Ae (i:=3) T' rfl ?_;refine Bm hh 0 ?_;refine Zc ?_;refine Ae (i:=5) T' rfl ?_;refine mj ?_;exact zW2):p:=h
def aa8{p:Prop}(h:p:=by
  refine Ca 13 [[(2,none)],[(24,some 0)],[(2,none)],[(26,some 2)],[(3,none)],[(28,some 4)],[(27,some 3),(29,some 5)],[(25,some 1),(30,some 6)],[(3,none)],[(32,some 8)],[(31,some 7),(33,some 9)],[(3,none)],[(35,some 11)]] [(12,36),(11,35),(10,34),(9,33),(8,32),(7,31),(6,30),(5,29),(4,28),(3,27),(2,26),(1,25),(0,24)] hh mixed T' ?_;refine Bd ?_;refine Yd 2 [_,_] ?_;refine Bd ?_;refine ze 2 ?_;refine Bd ?_;refine ze 1 ?_;refine Xu ?_;refine dC (λ_ hj=>hshl _) ?_;refine Bd ?_;refine Yd 1 [_,_] ?_;refine dC (λ_ hj=>hpl _) ?_;refine Bd ?_;refine ze 1 ?_;refine xa ?_;intro f W hJ hV;have hb_8:=hJ.bl;obtain⟨v36,v35,v34,v33,v32,v31,v30,v29,v28,v27,v26,v25,v24,_⟩:=hV;replace hh:=hJ.hp;refine Ea (Na (aa v36 (aa v35 (aa v34 (aa v33 (aa v32 (aa v31 (aa v30 (aa v29 (aa v28 (aa v27 (aa v26 (aa v25 (aa v24 Da)))))))))))))) ?_;dsimp only[Cb];clear hJ;refine Oa hh (hmk _) rfl ?_;intro w37 hh;exact gG):p:=h
def aba{p:Prop}(h:p:=by
  refine Zc ?_;refine Ae (i:=8) T' rfl ?_;refine Zh (hsm _ (hT.hp hh)) ja.out rfl rfl U' ?_;rintro e_ w41 ⟨rfl,hb_⟩;refine⟨_,rfl, ?_⟩;replace hh:=hh.ext hb_;refine Zc ?_;refine Ae (i:=9) T' rfl ?_;refine fF ?_;intro b42 w42 hh;refine Zc ?_;refine Ae (i:=10) T' rfl ?_;refine Er ?_;intro A43 c43 w43 hh;simp only[U_,G_] at hh;replace hh:=hh.sub (s_ _ _);refine Zc ?_;refine Xg 15 U' T' U' T' T' ?_;refine fa ?_;replace hh:=hh.sub (I' _ I_);refine⟨⟨_,n-1,c-1,X,_,m-1,c2-1,Y,O++[⟨x.m,nR (x.c.ma+y.c.ma)⟩],A43,c43,rfl,rfl, ?_,Z',Z',hSt,hSt2,hmg.both h1 h2 hk, ?_⟩,by show(n-1)+(m-1)<n+m;omega, ?_⟩
  .exact aeB
  .rw[Y_,Ma];exact hh
  exact Sc):p:=h
def EG{p:Prop}(h:p:=by
  exact aaq):p:=h
def I0{p:Prop}(h:p:=by
  obtain⟨hq1,hI2⟩:=tP b1 Z' Z' hI hb;have hqd:(q+18446744073709551616-1) % 18446744073709551616=q-1:=Z';have hrd:(rh+y1) % 18446744073709551616=rh+y1:=Z';by_cases hr2:4294967296<=rh+y1
  .have hdn:=XI b1 b0 hI2 Z' hr2;rw[<-hyy] at hdn;by_cases hq:4294967296<=q
   .exact aad
   have hqy:=hqy Z';refine fa ?_;refine Tf rfl rfl U' ?_;refine fa ?_;refine Tf (a:=4294967296) rfl rfl U' ?_;refine fa ?_;refine Ze rfl rfl U' ?_;exact aad
  have hr3:rh+y1<4294967296:=Z';by_cases hq:4294967296<=q
  .exact IZ
  have hqy:=hqy Z';refine fa ?_;refine Tf rfl rfl U' ?_;refine fa ?_;refine Tf (a:=4294967296) rfl rfl U' ?_;refine fa ?_;refine Ze rfl rfl U' ?_;exact IZ):p:=h
def Ov{p:Prop}(h:p:=by
  refine JM ?_;rintro e_ w16 ⟨rfl,hb_⟩;refine⟨_,rfl, ?_⟩;replace hh:=hh.ext hb_;refine fa ?_;refine⟨⟨i+1,Z',rfl,by rw[oa hz,g7,hall,y7,T6,gz];rfl,hh⟩,by show n-(i+1)<n-i;omega, ?_⟩;exact Sc):p:=h
def xF{p:Prop}(h:p:=by
  refine Zc ?_;refine Rb (i:=5) (by repeat (first|exact Eb|refine Ya ?_|refine Db ?_|refine Bb ?_)) rfl T' T' T' (λ_=>Dt rfl rfl Z' Z') U' ?_;refine EA ?_;exact aaq):p:=h
def W0{p:Prop}(h:p:=by
  clear hh;rintro ρ' w' ⟨m,A,c,hm0,hm1,hh⟩;have hcell:=hE.ld (hh.sub (.cons _ (.cons _ (A_ _))));obtain⟨q,rfl⟩:∃q,m=q+1:=⟨m-1,Z'⟩;refine fa ?_;refine ub ya.out rfl (hcell) U' ?_;by_cases hmn:q+1<=n
  .have hdm:=λA cc w1 hT1 hS1=>Fe A 2 cc [nR (x.ma^q),x] w1 hT1 hS1 (by simpa using⟨(hpow q Z').ok U',hx.1⟩) 128000 (by simpa[db] using⟨hpow q Z',hx.2.mono Z'⟩) U' U';rw[show vf ([nR (x.ma^q),x].map NR.ma)=x.ma^(q+1) by show 1*(nR (x.ma^q)).ma*x.ma=_;rw[db,U7,P5]] at hdm;have hq0:=JT (x:=x.ma) (show q<q+1 by omega);obtain⟨gq,rfl⟩:=hh.Pb (i:=3) rfl Z';refine fa ?_
   refine Cd [] [0] [0,0,2,6,14,0,32,96,224,0,512,1536,3584,7680,15872,32736,65504,0,262112,524256,1048544,2097150,4194303,8388607,16777215] 21 [[(0,none)],[(0,none)],[(31,some 1)],[(32,some 2)],[(33,some 3)],[(0,none)],[(35,some 5)],[(36,some 6)],[(37,some 7)],[(0,none)],[(39,some 9)],[(40,some 10)],[(41,some 11)],[(42,some 12)],[(43,some 13)],[(38,some 8),(44,some 14)],[(45,some 15)],[(4,none)],[(46,some 16),(47,some 17)],[(48,some 18)],[(49,some 19)]] [(20,50),(19,49),(18,48),(17,47),(16,46),(15,45),(14,44),(13,43),(12,42),(11,41),(10,40),(9,39),(8,38),(7,37),(6,36),(5,35),(4,34),(3,33),(2,32),(1,31),(0,30)] hh mixed T' Od rfl (by repeat (first|exact Eb|refine Ya ?_|refine Db ?_)) ?_;refine dmP ?_;refine dmP ?_;refine dnc ?_;refine ru ?_;refine QK ?_;refine dmP ?_;refine dnc ?_;refine ru ?_;refine QK ?_;refine dmP ?_;refine dnc ?_;refine ru ?_;refine QK ?_;refine Jp ?_;refine Xu ?_;refine Ft (q) ?_;refine Zm [_,_,_] (λ_ hj=>hj.hp.Jd (f:=NR.cells) (x:=nR (x.ma^q)) (l:=HA x.ma (q+1)) (i:=3) rfl NR.len U' hq0) ?_;refine Yd 1 [_,_,_] ?_
   refine uq [_,_,_,_,_,_] ?_;refine Va (i:=19) (Is (.agg #[.bool (nR (x.ma^(q+1))).neg,.string (nR (x.ma^(q+1))).Qa,.int .i64 (nR (x.ma^(q+1))).e])) Is.ext ?_ ?_
   .exact afQ
   refine uq [_,_,_] ?_;refine xa ?_;intro f W hJ hV _;have hb_4:=hJ.bl;obtain⟨v50,v49,v48,v47,v46,v45,v44,v43,v42,v41,v40,v39,v38,v37,v36,v35,v34,v33,v32,v31,v30,_⟩:=hV;obtain⟨A48,c48,e48,f48⟩:Rows _ _ _ (f 18) W:=v48;obtain⟨A50,c50,e50,f50⟩:Rows _ _ _ (f 20) W:=v50;replace hh:=hJ.hp;refine Ea (Na (aa e50 (aa v49 (aa e48 (aa v47 (aa v46 (aa v45 (aa v44 (aa v43 (aa v42 (aa v41 (aa v40 (aa v39 (aa v38 (aa v37 (aa v36 (aa v35 (aa v34 (aa v33 (aa v32 (aa v31 (aa v30 Da)))))))))))))))))))))) ?_;dsimp only[Cb];clear e48 e50 hJ;refine Hb hh (i:=3) rfl rfl rfl (f50) mb.out ya.out rfl U' (by first|rfl|exact ic _|exact Ob _|exact Pa _|exact Ta NR.one _) Z' Z' U' ?_;intro A51 c51 w51 hh;simp only[U_,G_] at hh;refine fa ?_;replace hh:=hh.perm (P_ (l₁:=[_,_]));simp only[C',E'] at hh;refine hE.st (v':=.slice A51 (q+1+1) c51) hh rfl rfl rfl ya.out rfl ?_;intro ws hh;replace hh:=hh.perm (P_ (l₁:=[_,_]));simp only[C',E'] at hh;replace hh:=hh.perm (P_ (l₁:=[_,_]))
   simp only[C',E'] at hh;refine fa ?_;have e1:na NR.cells (HA x.ma (q+1))++[.bool (nR (x.ma^(q+1))).neg,.string (nR (x.ma^(q+1))).Qa,.int .i64 (nR (x.ma^(q+1))).e]=na NR.cells (HA x.ma (q+1+1)):=by rw[show HA x.ma (q+1+1)=HA x.ma (q+1)++[nR (x.ma^(q+1))] from CG _ _,Ma,Dj];rfl
   rw[e1] at hh;have hcell2:=hE.ld (hh.sub (.cons _ (.cons _ (A_ _))));refine⟨⟨q+1+1,_,_,Z',Z',hh⟩, ?_, ?_⟩
   .unfold nS;rw[hcell,hcell2];show n+1-(q+1+1)<n+1-(q+1);omega
   exact Sc
  exact afM):p:=h
def LZ{p:Prop}(h:p:=by
  refine fa ?_;obtain⟨a,s,hW,hs,hE2⟩:=hE2;obtain rfl:=hW wa hwa;replace hs:xb[a]?=some s:=hs;have has:a<xn:=by have:=(X_.1 hs).1;omega
  have hsf:=hz.bx s (G' hs);have hsu:=λw1 hT1=>Sp s.hi s.lo w1 hT1 hsf.2.ok hsf.1.ok 400 hsf.2.sz hsf.1.sz U';have hcm:=λw1 hT1=>xh (nR (s.hi.ma-s.lo.ma)) tol w1 hT1 ((hsf.2.sz.sub hsf.1.sz).ok U') ht;rw[db] at hcm;have hcl:=yv (s.hi.ma-s.lo.ma) tol.ma;obtain⟨f1,_,_⟩:=hF _ _ hh λy hy=>F' _ (F' _ (F' _ (F' _ hy)));obtain⟨_,hex,hrx⟩:=f1.at_ Z';obtain rfl:=L_ hex;clear hex;clear hwa hW;generalize s.hi.ma-s.lo.ma=wd at*;generalize hcv:Yg wd tol.ma=cv at*;have hcb:=tM wd tol.ma;rw[hcv] at hcb;refine Ca 12 [[(18,none)],[(21,none)],[(103,some 0),(104,some 1)],[(105,some 2)],[(106,some 3)],[(18,none)],[(21,none)],[(108,some 5),(109,some 6)],[(110,some 7)],[(111,some 8)],[(107,some 4),(112,some 9)],[(7,none)]] [(11,114),(10,113),(9,112),(8,111),(7,110),(6,109),(5,108),(4,107),(3,106),(2,105),(1,104),(0,103)] hh mixed T' ?_;refine Ee ?_;refine jd ?_;refine lj (a) ?_;refine ru ?_;refine Zm [_,_,_] (λ_ hj=>((((hrx.ext hj.bl).recAt SR.len hs).drop 3).take 3)) ?_;refine Ee ?_
  refine jd ?_;refine lj (a) ?_;refine ru ?_;refine Zm [_,_,_] (λ_ hj=>((((hrx.ext hj.bl).recAt SR.len hs).drop 0).take 3)) ?_;refine dC (λ_ hj=>hsu _ (hT.hp hj.hp)) ?_;refine Yd 3 [_,_,_] ?_;refine xa ?_;intro f W hJ hV;have hb_24:=hJ.bl;obtain⟨v114,v113,v112,v111,v110,v109,v108,v107,v106,v105,v104,v103,_⟩:=hV;replace hh:=hJ.hp;refine Ea (Na (aa v114 (aa v113 (aa v112 (aa v111 (aa v110 (aa v109 (aa v108 (aa v107 (aa v106 (aa v105 (aa v104 (aa v103 Da))))))))))))) ?_;dsimp only[Cb];clear hJ;refine qa (hcm _ (hT.hp hh)) ja.out rfl U' ?_;rintro e_ w115 ⟨rfl,hb_⟩;refine⟨_,rfl, ?_⟩;replace hh:=hh.ext hb_;by_cases hlt:wd<tol.ma
  .rw[J' hlt] at hE2;have hcn:=hcl.2 hlt;refine fa ?_;refine ZQ ?_;intro b121 w121 hh;refine lH ?_;intro A122 c122 w122 hh;simp only[U_,G_] at hh;replace hh:=hh.sub (s_ _ _);refine fa ?_;replace hh:=hh.perm (P_ (l₁:=[_,_,_]));simp only[C',E'] at hh;replace hh:=hh.perm (P_ (l₁:=[_,_]));simp only[C',E'] at hh;replace hh:=hh.perm (P_ (l₁:=[_,_,_]));simp only[C',E'] at hh;replace hh:=hh.sub (I' _ (I' _ (I' _ (p' _ (A_ _)))))
   refine⟨⟨i+1,fu,r,ls++[⟨2,⟨some ⟨gx,0,none⟩,xn,xc,xb⟩,rd⟩],_,_,_,r.length,c2,_,by rw[Y_];rfl,rfl,rfl,rfl,by rw[q_];exact hE2,λy hy=>⟨z9 _ (hxs y (F' _ hy)).1,(hxs y (F' _ hy)).2⟩,λy hy=> ?_,by rw[Y_];show ls.length+1<=i+1;omega,Z',Z',by rw[Y_,Ma];exact hh⟩,by show(max bu 0+1).toNat-(i+1)<(max bu 0+1).toNat-i;omega, ?_⟩
   .exact adN
   exact Sc
  rw[L' hlt] at hE2;have hcn:¬cv<0:=λh=>hlt (hcl.1 h);refine fa ?_;obtain⟨f1,_,_⟩:=hF _ _ hh λy hy=>F' _ (F' _ (F' _ (F' _ hy)));refine qa (wC (some ⟨gx,0,none⟩) xn xc xb a s 400 _ (hT.hp hh) f1 hz.bx Z' U' hs) ja.out rfl U' ?_;rintro e_ w126 ⟨LA,lc,UA,uc,rfl,h3⟩;refine⟨_,rfl, ?_⟩;replace hh:=hh.join h3;clear h3 f1;simp only[C',E'] at hh;refine fa ?_;refine Bc hh (cs:=[_,_]) mb.out ya.out (Sb (dp rfl) (Sb (dp rfl) oe)) rfl rfl U' U' U' rfl U' ?_;intro b133 w133 hh;refine CT ?_;intro A134 c134 w134 hh;simp only[U_,G_] at hh;replace hh:=hh.sub (s_ _ _);refine fa ?_;replace hh:=hh.perm (P_ (l₁:=[_]));simp only[C',E'] at hh;replace hh:=hh.perm (P_ (l₁:=[_]));simp only[C',E'] at hh;replace hh:=hh.perm (P_ (l₁:=[_,_,_,_,_]));simp only[C',E'] at hh;replace hh:=hh.perm (P_ (l₁:=[_,_,_,_]))
  simp only[C',E'] at hh;replace hh:=hh.perm (P_ (l₁:=[_,_,_,_,_]));simp only[C',E'] at hh;replace hh:=hh.sub (I' _ (I' _ (I' _ (I' _ (I' _ (p' _ (A_ _)))))));have hll:∀u,(Ni xb a s u).length=xn:=λu=>by unfold Ni;rw[T9,Z_];omega
  refine⟨⟨i+1,fu,⟨LA,xn,lc,Ni xb a s false⟩::⟨UA,xn,uc,Ni xb a s true⟩::r,ls,A1,c1,_,_,_,(⟨UA,xn,uc,Ni xb a s true⟩:ZB).row::(⟨LA,xn,lc,Ni xb a s false⟩:ZB).row::(Rw++.row Af xn af 78 2 (na FX.cells fs)::Rf),rfl,rfl,rfl,rfl,hE2,λy hy=> ?_,λy hy=>F' _ (F' _ (z9 _ (hls y hy))),Z',Z',by show r.length+2<=_;omega, ?_⟩,by show(max bu 0+1).toNat-(i+1)<(max bu 0+1).toNat-i;omega, ?_⟩
  .exact af4
  .exact agf
  exact Sc):p:=h
def aab{p:Prop}(h:p:=by
  refine fa ?_;refine Oa hh (hof _ hh.below) rfl ?_;intro w30 hh;refine Tb ?_;intro b9 w9 hh ws hh;refine qa (tj fx.A fx.n fx.a fx.ds _ (hf.dg.ext hh.below) Z') ja.out rfl U' ?_;rintro e_ w33 ⟨A33,c33,rfl,hown_,hb_⟩;refine⟨_,rfl, ?_⟩;replace hh:=hh.Aa (x:=.row _ _ _ _ _ _) hb_ hown_;obtain⟨gd,rfl⟩:=hh.Pb (i:=0) rfl Z';refine fa ?_;refine qa (jO gd fx.n c33 a fx.ds _ hh hln Z' Z') ja.out rfl U' ?_;rintro e_ w37 ⟨rfl,hh2⟩;refine⟨_,rfl, ?_⟩;replace hh:=hh2;clear hh2;refine Tb ?_;intro b10 w10 hh ws hh;replace hh:=hh.Nb 30 3;refine Ba [11,12,42,43,44,45,46,47,48,49,50,51,52,53,54,55,56,57,58,59,60,61,62,63,64,65,66,67,68] 42 (λv w'=>∃(i c1:Nat)(B:Option Addr),i<=fx.m/\v=.int .i64 i/\Hp w [.row B (Tm ap d (d*sd) (fx.cs.map NR.ma) i).length c1 30 3 (na NR.cells ((Tm ap d (d*sd) (fx.cs.map NR.ma) i).map nR)),.blk b10 78 [.slice (some ⟨gd,0,none⟩) (fx.n-1) c33,.slice B (Tm ap d (d*sd) (fx.cs.map NR.ma) i).length c1] (0,0),.row (some ⟨gd,0,none⟩) (fx.n-1) c33 3 1 (jb (fx.ds.eraseIdx a)),.blk b9 196 [.int .i64 ((d:Int)+1),.int .i64 (ap:Int)] (0,0),.blk b6 78 [.slice none 0 0,.slice none 0 0] (0,0),.blk b3 78 [.slice fx.A fx.n fx.a,.slice fx.B fx.m fx.b] (0,0)] w') (λv _=>fx.m-(intOf v).toNat) ?_ ?_
  .exact⟨0,0,none,D' _,rfl,hh⟩
  clear hh;rintro ρ' v w' ⟨i,c1,B,hi,rfl,hh⟩;by_cases hlt:i<fx.m
  .obtain⟨x,hx⟩:=ea (l:=fx.cs) (k:=i) Z';obtain⟨adC,hAC,sC⟩:=hf.nm.at_ Z';have hevC:Value.slice fx.B fx.m fx.b=.slice (some adC) fx.m fx.b:=by rw[hAC]
   have hxd:((fx.cs.map NR.ma)[i]?).getD 0=x.ma:=by rw[V_,hx];rfl
   have hxn:nR x.ma=x:=(by exact afG);have hcast:((i:Int)/(ap:Int)) % ((d:Int)+1)=((i/ap % (d+1):Nat):Int):=by norm_cast
   have hq0:(0:Int)<=(i:Int)/(ap:Int):=Int.ediv_nonneg Z' Z';have hst:=QA ap d (d*sd) (fx.cs.map NR.ma) i;rw[hxd] at hst;have hfl:(Tm ap d (d*sd) (fx.cs.map NR.ma) i).length<=i:=(by exact acY);generalize hF:Tm ap d (d*sd) (fx.cs.map NR.ma) i=F at*;by_cases hdg2:i/ap % (d+1)=d*sd
   .rw[J' hdg2] at hst;refine fa ?_;refine pd (k:=i) mb.out ya.size hevC rfl Z' Z' U' ?_;refine wb (vs:=[_,_,_]) ya.out rfl ((sC.ext hh.below).recAt NR.len hx) rfl U' ?_;refine Tb ?_;intro b12 w12 hh ws hh;refine sZ ?_;refine jd ?_;refine Bd ?_;refine ze 4 ?_;refine Q0 ?_;refine Bd ?_;refine ze 4 ?_;refine O0 ?_;refine Bd ?_;refine ze 6 ?_;refine jd ?_;refine Va (i:=10) (Is (.pointer (some (ad0.add (a*1))))) (Is.ext) ?_ ?_
    .exact ac2
    refine Vo (λ_ hj=>(sD.ext hj.hp.below).jw hgd) ?_;refine jd ?_;refine acv ?_;refine xa ?_;intro f W hJ hV;have hb_11:=hJ.bl;obtain⟨v60,v59,v58,v57,v56,v55,v54,v53,v52,v51,v50,v49,v48,v47,_⟩:=hV;replace hh:=hJ.hp;refine OZ ?_;dsimp only[Cb];clear hJ;refine fa ?_;refine Un ?_;intro b65 w65 hh;refine Uy ?_;intro A66 c66 w66 hh;simp only[U_,G_] at hh;replace hh:=hh.sub (s_ _ _);refine Lb ?_;intro ws hh;replace hh:=hh.sub (p' _ (I' _ (I' _ (I' _ (I' _ (I' _ (I' _ I_)))))));refine⟨⟨i+1,c66,A66,Z',rfl, ?_⟩,by show fx.m-(i+1)<fx.m-i;omega, ?_⟩
    .exact ac0
    exact Sc
   rw[L' hdg2,n_] at hst;refine fa ?_;refine pd (k:=i) mb.out ya.size hevC rfl Z' Z' U' ?_;refine wb (vs:=[_,_,_]) ya.out rfl ((sC.ext hh.below).recAt NR.len hx) rfl U' ?_;refine Tb ?_;intro b12 w12 hh ws hh;refine sZ ?_;refine jd ?_;refine Bd ?_;refine ze 4 ?_;refine Q0 ?_;refine Bd ?_;refine ze 4 ?_;refine O0 ?_;refine Bd ?_;refine ze 6 ?_;refine jd ?_;refine Va (i:=10) (Is (.pointer (some (ad0.add (a*1))))) (Is.ext) ?_ ?_
   .exact ac2
   refine Vo (λ_ hj=>(sD.ext hj.hp.below).jw hgd) ?_;refine jd ?_;refine acv ?_;refine xa ?_;intro f W hJ hV;have hb_11:=hJ.bl;obtain⟨v60,v59,v58,v57,v56,v55,v54,v53,v52,v51,v50,v49,v48,v47,_⟩:=hV;replace hh:=hJ.hp;refine OZ ?_;dsimp only[Cb];clear hJ;refine fa ?_;replace hh:=hh.sub (p' _ (I' _ (I' _ (I' _ (I' _ (I' _ (I' _ I_)))))));refine⟨⟨i+1,c1,B,Z',rfl,by rw[hst];exact hh⟩,by show fx.m-(i+1)<fx.m-i;omega, ?_⟩;exact Sc
  exact agj):p:=h
def qZ{p:Prop}(h:p:=by
  obtain⟨ad',e,r⟩:=hbk.2 Z';obtain rfl:ad=ad':=L_ e;exact r j u hu):p:=h
def aaa{p:Prop}(h:p:=by
  cases hx:xs[i]? with
  |none=>exact Sz.zero _
  |some x=>exact h x (G' hx)):p:=h
def N0{p:Prop}(h:p:=by
  exact J_ (Value.int IntKind.i64) (show(n:Int)-1=(n:Int)-1-(0:Nat) by omega)):p:=h
def aaH{p:Prop}(h:p:=by
  exact S7.1 λh=>h3 (N_ (by rwa[ne_eq,W5]))):p:=h
def jV{p:Prop}(h:p:=by
  refine fa ?_;exact⟨by rw[N_ h],hh.below⟩):p:=h
def aa5{p:Prop}(h:p:=by
  rw[r_ (by rw[q9];omega),r_ Z'];rfl):p:=h
def M0{p:Prop}(h:p:=by
  have h1:bN m≠0:=λh=>h0 (by rw[h,ki]);rw[N_ h1];exact⟨rfl,hh.below⟩):p:=h
def YV{p:Prop}(h:p:=by
  refine fa ?_;exact⟨by rw[N_ hg],hh.below⟩):p:=h
def aaZ{p:Prop}(h:p:=by
  simp only[o_,G9,y6,List.sum_nil,xR];simp only[IR.v,hqv];omega):p:=h
def oU{p:Prop}(h:p:=by
  rw[V_,x9 Z'];rfl):p:=h
def bR{p:Prop}(h:p:=by
  exact⟨0,D' _,rfl,λt ht=>(nomatch ht),hh⟩):p:=h
def aap{p:Prop}(h:p:=by
  obtain⟨cs,h6,h7⟩:=h5 i Z';rw[hc] at h6;obtain⟨a,rfl,h8⟩:=one _ _ _ h7;exact⟨a,h6,h8⟩):p:=h
def kT{p:Prop}(h:p:=by
  rw[ho] at ho';injection ho' with ho';subst ho';exact hed):p:=h
def aaV{p:Prop}(h:p:=by
  refine fa ?_;rw[Nat.sub_eq_zero_of_le Z',O_ Z',ki];exact⟨rfl,hh.below⟩):p:=h
def E0{p:Prop}(h:p:=by
  refine fa ?_;rw[<-hcut,Y_,R_,y9 Z'];exact⟨rfl,hh.below⟩):p:=h
def aa2{p:Prop}(h:p:=by
  have:=hp t (cj t ht) (i+1) (by rw[E_];omega);rwa[show j+1+i=j+(i+1) by omega]):p:=h
def vZ{p:Prop}(h:p:=by
  have h1:bN m=0:=by rw[<-ki] at h0;exact DC h0
  rw[O_ Z'];exact⟨rfl,hh.below⟩):p:=h
def aaM{p:Prop}(h:p:=by
  induction xs generalizing ys c with
  |nil=>exact Dg.nil
  |cons x xs ih=>exact Dg.cons (B_ _ hB) (ih _ _)):p:=h
def ZZ{p:Prop}(h:p:=by
  cases p with
  |nil=>show Sz k (nR 0).ma;rw[db];exact Sz.zero k
  |cons t p=>exact(hok t q').2):p:=h
def V0{p:Prop}(h:p:=by
  rw[show(18446744073709551616:Nat)=2^64 from rfl,<-W9];exact m_ Z' Z'):p:=h
def hQ{p:Prop}(h:p:=by
  rw[Eh Z' (Nf Z' _ _),Gc hbd]):p:=h
def aae{p:Prop}(h:p:=by
  rw[d_,n6,n_] at hh;refine fa ?_;exact⟨_,rfl,hh.at_ (i:=0) rfl,hh.below⟩):p:=h
def US{p:Prop}(h:p:=by
  exact⟨PX.nil,tg.err he,rfl,(hh.sub (R9 _)).cS⟩):p:=h
def FR{p:Prop}(h:p:=by
  refine fa ?_;exact⟨_,_,rfl,World.ownsRow_nil _ _ _ _,hh.below⟩):p:=h
def T0{p:Prop}(h:p:=by
  exact J_ (Value.int IntKind.i64) (show(n:Int)-1-(k:Int)-1=(n:Int)-1-((k+1:Nat):Int) by omega)):p:=h
def sQ{p:Prop}(h:p:=by
  refine fa ?_;exact .inl ⟨by rw[hend];decide,by rw[hend],hh.below⟩):p:=h
def aeB{p:Prop}(h:p:=by
  show Value.slice _ (O.length+1) _=Value.slice _ (O++[(⟨x.m,nR (x.c.ma+y.c.ma)⟩:TR)]).length _;rw[Y_];rfl):p:=h
def aaC{p:Prop}(h:p:=by
  have:=Vw n zc;rw[hzl] at this;unfold madeCells;rw[hzc];have e2:zc.toArray.size=sz:=by simpa using hzl
  rw[e2,this]):p:=h
def iL{p:Prop}(h:p:=by
  rw[hd] at h1;rw[hd];exact⟨_,_,rfl,h1,hh.below⟩):p:=h
def ac0{p:Prop}(h:p:=by
  rw[hst,Y_,q_,Ma,show[x.ma].map nR=[x] by rw[o_,G9,hxn]];exact hh):p:=h
def XZ{p:Prop}(h:p:=by
  refine fa ?_;refine Nu mb.out mb.out mb.out rfl (hh.ra (i:=0) rfl) U' ?_;refine fa ?_;exact⟨rfl,hh.below⟩):p:=h
def CZ{p:Prop}(h:p:=by
  unfold Program.cellsOf at hc
  cases hi:P.info? fd.type with
  |none=>simp[hi] at hc
  |some i=>exact⟨i,rfl,by simpa[hi] using hc⟩):p:=h
def abT{p:Prop}(h:p:=by
  cases rest with
  |nil=>simp at hlen;omega
  |cons x r=>exact⟨x,r,rfl⟩):p:=h
def aer{p:Prop}(h:p:=by
  refine T7 λhn=>hall λi hi=> ?_
  cases hc2:L.getD i false with
  |true=>rfl
  |false=>exact absurd ⟨i,hi,hc2⟩ hn):p:=h
def adk{p:Prop}(h:p:=by
  refine full L a w (fuel+1) hI hall ?_;have hL:L=Qh l.length m:=Kv (by rw[hI.ls,hnn]) hml hall hI.tl;rw[hL,gJ] at hc;omega):p:=h
def ady{p:Prop}(h:p:=by
  refine Tb ?_;intro b2 w2 hh b3 w3 hh;refine Oa hh (xh a b _ (hT.hp hh) ha hb) rfl ?_;intro w7 hh;refine fa ?_;rw[e1];exact⟨rfl,hh.below⟩):p:=h
def aes{p:Prop}(h:p:=by
  have h2:=hD (i+1) e (by simpa using he);refine⟨h2.1,λt ht=> ?_⟩;have h3:=h2.2 t (cj t ht);rwa[show j+1+i=j+(i+1) by omega]):p:=h
def ad5{p:Prop}(h:p:=by
  intro ρ1 w1 hj hR;obtain⟨g95,e95,o95⟩:=hR.1;exact Pd rfl (Le (show _=Value.tuple (List.toArray _) from e95) rfl) ⟨Below.refl _ _,rfl⟩):p:=h
def afG{p:Prop}(h:p:=by
  have:((fx.cs.map NR.ma).map nR)[i]?=some x:=by rw[<-hnum];exact hx
  rw[V_,V_,hx] at this;exact L_ this):p:=h
def aeo{p:Prop}(h:p:=by
  refine⟨Z', ?_⟩;by_cases hc:x0+2^i*(x1 % 2)<y0+2^i*(y1 % 2)
  .rw[J' hc];rw[hlt] at hc;omega
  rw[L' hc];rw[hlt] at hc;omega):p:=h
def abr{p:Prop}(h:p:=by
  rw[W5];exact⟨λh=>by unfold NR.ma;rw[h];rfl,Qu⟩):p:=h
def ab9{p:Prop}(h:p:=by
  obtain h|h:=o8 n
  .exact h
  obtain⟨_,h1,_⟩:=hS.2 h;cases h1):p:=h
def acn{p:Prop}(h:p:=by
  obtain⟨y,hy,hyb⟩:=B8.1 hm;have:=(Sg (hs.own y hy) hyb).2;omega):p:=h
def ac3{p:Prop}(h:p:=by
  refine Lb ?_;intro ws hh;refine VN (td rfl (ud (vs:=[_,_,_,_,_,_]) ya.out (hh.qb (i:=1) (n:=6) rfl rfl) rfl) De) ?_;exact⟨rfl,hh.below⟩):p:=h
def JX{p:Prop}(h:p:=by
  refine fa ?_;exact⟨by rw[O_ Z'],hh.below⟩):p:=h
def aeT{p:Prop}(h:p:=by
  obtain hy|hy:=z_.1 hy
  .exact⟨(hyR y hy).1,F' _ (hyR y hy).2⟩
  obtain rfl:=S_.1 hy;exact⟨rfl,q'⟩):p:=h
def ad7{p:Prop}(h:p:=by
  refine Lb ?_;intro ws hh;refine Lu ?_;exact⟨rfl,hh.below⟩):p:=h
def abA{p:Prop}(h:p:=by
  exact⟨0,0,none,[],[],D' _,rfl,rfl,rfl,λy h=>absurd h O9,hh⟩):p:=h
def abU{p:Prop}(h:p:=by
  rw[H9 Z',hl,d_,F8,u9,hx]):p:=h
def adb{p:Prop}(h:p:=by
  refine Lb ?_;intro ws hh;refine Lu ?_;exact .inl ⟨h0,rfl,hh.below⟩):p:=h
def afQ{p:Prop}(h:p:=by
  intro ρ1 w1 hj hR;obtain⟨A48,c48,h48,s48⟩:=hR.1;exact Qb rfl (pb ja.out (Ga h48 Gb)) (hdm A48 c48 _ (hT.hp hj.hp) s48) (λ_ _ hq=>⟨_,hq.1,hq.2,rfl⟩)):p:=h
def ae5{p:Prop}(h:p:=by
  refine fa ?_;refine ub ya.out rfl (vH hr (Uc hx) rfl) U' ?_;refine fa ?_;obtain⟨e1,e2⟩:=abw hx (by simp[Td];omega);rw[e1,e2];exact⟨rfl,hh.below⟩):p:=h
def acs{p:Prop}(h:p:=by
  rw[B9] at hun |-;rw[a6 hiL] at hun |-;simpa using hun):p:=h
def adh{p:Prop}(h:p:=by
  refine XE ?_;rw[<-hbar];exact⟨rfl,rows,RS,hh.sub (.cons _ (.cons _ (A_ _))),hfr⟩):p:=h
def aeg{p:Prop}(h:p:=by
  have e1:(O++X++Y).length=O.length+n+m:=by rw[Y_,Y_];omega
  exact⟨O++X++Y,A74,c74,hd,by rw[e1],by rw[e1,Ma,Ma];exact hh⟩):p:=h
def adg{p:Prop}(h:p:=by
  refine Wt mb.out rfl U' ?_;refine mI ?_;refine MM rfl rfl U' ?_;refine fa ?_;rw[W_ (by rw[<-Yc];omega)] at hm;rw[hm];exact⟨rfl,Below.refl _ _⟩):p:=h
def adp{p:Prop}(h:p:=by
  refine da (N:=58) (l:=[.agg #[.int .i64 v,.slice A n c]]) func83 rfl rfl (by simp) ?_;refine Lb ?_;intro b1 w1 hh;refine Oa hh (hfw _) rfl ?_;intro w7 hh;refine fa ?_;exact⟨rfl,hh.below⟩):p:=h
def adt{p:Prop}(h:p:=by
  rw[htk,hpt,hsd] at htc;refine qa (htc) ja.out rfl U' ?_;rintro e_ w_ ⟨rfl,hh⟩;refine⟨_,rfl, ?_⟩;refine fa ?_;exact⟨rfl,hh.sub (.cons_cons _ (.cons _ (.cons _ (A_ _))))⟩):p:=h
def agf{p:Prop}(h:p:=by
  rw[show(⟨LA,xn,lc,Ni xb a s false⟩::⟨UA,xn,uc,Ni xb a s true⟩::r:List ZB).reverse=r.reverse++[⟨UA,xn,uc,Ni xb a s true⟩,⟨LA,xn,lc,Ni xb a s false⟩] by simp,Ma];exact hh):p:=h
def ac5{p:Prop}(h:p:=by
  refine Lb ?_;intro ws hh;refine VN (td rfl (ud (vs:=[_,_,_]) ya.out (hh.qb (i:=1) (n:=3) rfl rfl) rfl) De) ?_;rw[W_ Z'] at hS2;rw[hS2];exact⟨rfl,hh.below⟩):p:=h
def abQ{p:Prop}(h:p:=by
  refine da (N:=9) (l:=[.int .i64 v]) func128 rfl rfl (by simp) ?_;refine fa ?_;exact⟨rfl,hh.below⟩):p:=h
def adn{p:Prop}(h:p:=by
  rw[hu];refine Lb ?_;intro ws hh;refine XE ?_;rw[W_ Z'] at hS2;rw[hS2];exact⟨rfl,hh.below⟩):p:=h
def adA{p:Prop}(h:p:=by
  refine Lb ?_;intro ws hh;refine Yk ?_;exact⟨PX.nil,tg.err he0,rfl,(hh.sub (R9 _)).cS⟩):p:=h
def ac7{p:Prop}(h:p:=by
  rw[hod2] at ho;refine fa ?_;refine Pu ?_;refine fa ?_;refine Oa hh (ho _ (Below.refl _ _)) rfl ?_;intro w24 hh;refine fa ?_;exact⟨by rw[J' (.inr rfl)],hh.below⟩):p:=h
def ado{p:Prop}(h:p:=by
  have hr0:rest=[]:=C8 Z';subst hr0;refine fa ?_;refine af3 (by first|exact .inr rfl|exact .inl rfl) rfl  ?_;rw[n_,Tg,n_] at*;rw[<-heq];exact⟨rfl,hh⟩):p:=h
def acb{p:Prop}(h:p:=by
  refine fa ?_;refine Pq ?_;refine fa ?_;exact⟨by rw[hc],hh.below⟩):p:=h
def aec{p:Prop}(h:p:=by
  have h3:=hdep (i-m) Z';rw[show m+(i-m)=i by omega] at h3;have h4:(i-m==0)=false:=by simp;omega
  rw[h4,f_] at h3;have:=Kj hM hI.cl i m hed' h3;rw[hI.tl m (j' _)] at this
  cases this):p:=h
def adR{p:Prop}(h:p:=by
  have h1:(Op.equal 30 (.agg #[.bool s,.string a,.int .i64 e]) (.agg #[.bool s',.string a',.int .i64 e'])).run prog w=.ok r w:=by rw[<-hr];exact GV 9997 s s' a a' e e' w
  simp only[execOp,hx,hy];simp[eqGuard,binOp,h1]):p:=h
def acF{p:Prop}(h:p:=by
  refine fa ?_;exact⟨none,0,[],[],rfl,rfl,λx h=>absurd h O9,(hh.sub (R9 _)).Nb _ _⟩):p:=h
def acY{p:Prop}(h:p:=by
  unfold Tm;rw[Z_];exact M_ (Z5 _ _) (by rw[q9];exact j' _)):p:=h
def ac4{p:Prop}(h:p:=by
  refine⟨hI.nd,hI.sz,λs=> ?_⟩;by_cases hs:∃i,(i,s)∈ds
  .obtain⟨i,hi⟩:=hs;rw[(sk _ ds s hnd).1 i hi,(hdsm i s hi).2]
  rw[(sk _ ds s hnd).2 λi hi=>hs ⟨i,hi⟩];exact hI.yu s λi hi _ hd=>hs ⟨i,hpre i s hi hd⟩):p:=h
def adN{p:Prop}(h:p:=by
  refine z9 _ ?_;obtain hy|hy:=z_.1 hy
  .exact hls y hy
  rw[S_.1 hy];exact hmx):p:=h
def aeU{p:Prop}(h:p:=by
  rw[hod2] at ho;refine fa ?_;refine Pu ?_;refine fa ?_;refine Oa hh (ho _ (Below.refl _ _)) rfl ?_;intro w24 hh;refine fa ?_;refine⟨?_,hh.below⟩;rw[L'];rintro (h|h)
  .omega
  cases h):p:=h
def ade{p:Prop}(h:p:=by
  have h1:M<256^(Ha 256 M).length:=Kl Z' M;rw[KT Z' h1,d_,n6,n_,AO (λd hd=>(je (B:=256) Z' M).1 d (g8.1 hd)),sb,List.map_reverse]):p:=h
def adZ{p:Prop}(h:p:=by
  rintro e a' w' ⟨ρ',hf',hq⟩;have e1:(λi=>a.tmps.getD i undef)=ρ:=funext hf.at_;have e2:(λi=>a'.tmps.getD i undef)=ρ':=funext hf'.at_
  cases e with
  |normal=>exact⟨⟨ρ',hf',hq.1⟩,by rw[e1,e2];exact hq.2⟩
  |_=>exact⟨ρ',hf',hq⟩):p:=h
def adW{p:Prop}(h:p:=by
  have h1:z.natAbs=y.natAbs*2^j:=by rw[<-hyz,W8,j8];rfl
  have h2:y.natAbs*1<=y.natAbs*2^j:=k_ _ (t_ Z');have h3:Sa y.natAbs<=8*a.size:=Fc Z';rw[ph];omega):p:=h
def aeZ{p:Prop}(h:p:=by
  obtain hf|hf:=z_.1 hf
  .exact⟨F' _ (F' _ (hR f hf).1),F' _ (F' _ (hR f hf).2)⟩
  rw[S_.1 hf];exact⟨q',F' _ q'⟩):p:=h
def aew{p:Prop}(h:p:=by
  refine sa (cT (sr ?_));refine Oa hh (pj _ (hT.hp hh)) rfl ?_;intro w34 hh;refine aB (sa (jj (Hm ?_)));refine qa1 ?_;exact⟨rfl,hh.below⟩):p:=h
def uW{p:Prop}(h:p:=by
  exact O'):p:=h
def af4{p:Prop}(h:p:=by
  obtain rfl|hy:=T_.1 hy
  .exact⟨F' _ q',(hll false).symm⟩
  obtain rfl|hy:=T_.1 hy
  .exact⟨q',(hll true).symm⟩
  exact⟨F' _ (F' _ (z9 _ (hxs y (F' _ hy)).1)),(hxs y (F' _ hy)).2⟩):p:=h
def abZ{p:Prop}(h:p:=by
  rw[hds,g8,B8];refine⟨(some d,i), ?_,rfl⟩;rw[List.mem_zipIdx_iff_getElem?];rw[V_,x9 hi];simp only[K8,hd]):p:=h
def ae1{p:Prop}(h:p:=by
  have e2:na TR.cells (vh l x)=[]++na TR.cells (l.take i)++[.string x.m,.bool (nR x.c.ma).neg,.string (nR x.c.ma).Qa,.int .i64 (nR x.c.ma).e]++na TR.cells (l.drop i):=by rw[hput,Ma,Zg,E',l_];rfl
  exact aax):p:=h
def adq{p:Prop}(h:p:=by
  split at h
  .rename_i f hf;have:=K6 hf;simp at this;exact absurd h this
  rename_i hf;split at h
  .cases h
  rename_i hno;refine⟨λe=>hno (.inl (by rw[e];rfl)),λf hm=> ?_,λf hm=> ?_⟩
  .have:=Q7.1 hf f hm;simpa using this
  apply T7;intro hne;exact hno (.inr (k9.2 ⟨f,hm,N_ hne⟩))):p:=h
def adM{p:Prop}(h:p:=by
  have hL:=Kv hsz hml hall htail;have hρ:ρ1=Gf ρ (λi=>ρ1 (dst i)) ds:=NQ (f:=λi=>ρ1 (dst i)) (λp hp=>by rw[(hds p hp).2]) (λs hs2=>hag s λj hj _=>hs2 _ (hds2 j hj)) hnd;refine Xg m hml hL (by have:=eJ hall;omega) hrd hend ?_;have:=hfin (λi=>ρ1 (dst i)) R w1 (λi hi=>hS i hi (hall i hi)) hh;rwa[<-hρ] at this):p:=h
def LR{p:Prop}(h:p:=by
  intro ρ1 w1 hj hR;exact let⟨g,u,e1,e2⟩:=hR.1;Pd rfl (Lc e1) ⟨Below.refl _ _,g,u,rfl,e2⟩):p:=h
def KY{p:Prop}(h:p:=by
  refine VN (td rfl (ud (vs:=[_,_,_,_,_,_]) ya.out (hh.qb (i:=0) (n:=6) rfl rfl) rfl) De) ?_;exact⟨rfl,hh.below⟩):p:=h
def adi{p:Prop}(h:p:=by
  refine da (N:=64) (l:=[.agg #[.int .i64 p.v,.slice p.A p.n p.c],.slice xA ys.length xc]) func28 rfl rfl (by simp) ?_;refine Tb ?_;intro b2 w2 hh b4 w4 hh;refine eh ?_;intro w15 hh;exact o0):p:=h
def adj{p:Prop}(h:p:=by
  refine fa ?_;refine ub ya.out rfl ((s2.ext hh.below).jw (by assumption)) U' ?_;refine fa ?_;refine fH ?_;refine Lb ?_;intro ws hh;refine Yk ?_;exact .inl ⟨.inr ⟨h0,by rw[hr1];decide,by rw[hr1];rfl⟩,hh.below⟩):p:=h
def ab8{p:Prop}(h:p:=by
  have p1:=hpre i d hi h1;have p2:=hpre j d hj h2;have e1:=((sk (ρ:=ρ) (λi=>.int .i64 i) ds d hnd).1 i p1).symm.trans ((sk (ρ:=ρ) (λi=>.int .i64 i) ds d hnd).1 j p2);injection e1 with _ e1
  omega):p:=h
def eW{p:Prop}(h:p:=by
  intro ρ1 w1 hj hR;exact let⟨g,u,e1,e2⟩:=hR.1;Pd rfl (Le (vs:=[_,_]) e1 rfl) ⟨Below.refl _ _,rfl⟩):p:=h
def KU{p:Prop}(h:p:=by
  intro ρ1 w1 hj hR;exact let⟨g,u,e1,e2⟩:=hR.1;Pd rfl (Le (vs:=[_,_]) e1 rfl) ⟨Below.refl _ _,g,u,rfl,e2⟩):p:=h
def aeW{p:Prop}(h:p:=by
  refine da (N:=11) (l:=[.slice A n c]) func219 rfl rfl (by simp) ?_;refine Lb ?_;intro b1 w1 hh;refine Pu ?_;have hp:=hh.Uf (i:=0) (o:=0) rfl rfl;refine fa ?_;refine Oa hh (gK A n c t _ [.pointer (some ⟨b1,0,none⟩)] (λx=>decide (x.n≠n)) _ (hS.ext hh.below) hn λz w1 _ hb=>Gz z n A c _ w1 (vc hb hp)) rfl ?_;intro w9 hh;rw[ga];refine fa ?_;exact⟨rfl,hh.below⟩):p:=h
def Aw{p:Prop}(h:p:=by
  refine fa ?_;exact⟨_,rfl,λh=>(by cases h),hh.below⟩):p:=h
def HC{p:Prop}(h:p:=by
  refine fa ?_;exact⟨_,_,rfl,hh.at_ (i:=0) rfl,hh.below⟩):p:=h
def ae0{p:Prop}(h:p:=by
  simp only[Ib];rw[<-htake];have h5:o+vs.length<=m*sz:=Z';have h6:m*sz<=cur.toList.length:=by rw[<-hcl,hcur];exact hle
  rw[List.take_take,y9 Z',List.drop_take,l_,l_,List.take_append,List.take_append];simp only[R_,y9 (show o<=cur.toList.length by omega)];rw[W_ (l:=cur.toList.take o) (by simp;omega),W_ (l:=vs) Z'];congr 2;congr 1;omega):p:=h
def adL{p:Prop}(h:p:=by
  by_cases hif:i∈fr
  .obtain⟨d,t,ty,pos,af,n,ag,by',zc,hi1,ht⟩:=hfr.at i hif;have ho2:o=⟨some d,.alloc t,ty,pos,af,none⟩:=by
    have h7:=ho;rw[a8,hi1] at h7;injection h7 with h7
    exact h7.symm
   have hds:d<a.tmps.size:=(by rw[hI.sz];exact hdN (i,d) (hpre i d him (by rw[ho,ho2];rfl)));subst ho2;exact zR ht hog a hds _ _ (λ_=>rfl) λv w' hk hb=>hnext v w' hk λ_=>hb
  exact hog.out a _ _ (λ_=>rfl) λv w2 hv=>hnext v w2 hv λh=>absurd h hif):p:=h
def adx{p:Prop}(h:p:=by
  intro L a w hI hc;have hall:∀i,i<l.length->L.getD i false=true:=λi hi=>(by exact aaN);have hmn:l.length<=0+m:=by
   obtain h|h:=Z9 m l.length
   .have h1:=hall m h;rw[hI.tl m (j' _)] at h1
    cases h1
   omega
  exact full L a w 0 hI (λi hi=>hall i Z') hmn):p:=h
def ae7{p:Prop}(h:p:=by
  refine Zc ?_;refine Xg 7 U' T' U' T' T' ?_;refine Lb ?_;intro ws hh;refine⟨⟨_,_,rfl,rfl,hh.sub (.cons_cons _ (.cons_cons _ (.cons_cons _ (R9 _))))⟩, ?_⟩;repeat refine Wc rfl ?_
  exact λ_ _=>rfl):p:=h
def aeS{p:Prop}(h:p:=by
  have hdm:j/sz*sz+j % sz=j:=by rw[F_];exact E9 j sz
  have hmod:j % sz<sz:=B_ _ h0;have hj:j/sz<l.length:=(by have:=(X_.1 hu).1;rw[ue hf] at this;exact Nat.div_lt_of_lt_mul (by rw[F_];exact this));obtain⟨x,hx⟩:=ea hj;have h6:=Bs hf hx;have h7:(f x)[j % sz]?=some u:=(by rw[<-h6,V7,J' hmod,F8,hdm];exact hu);have h8:=(World.cells?_some (hp _ _ hx).1).2.2 (j % sz) hmod;rw[h7,Dr,hdm] at h8;exact h8):p:=h
def pT{p:Prop}(h:p:=by
  rw[W_ Z'] at hall;refine fa ?_;exact⟨_,rfl,⟨λh=>absurd h U',λh=>by rw[hall] at h;cases h⟩,hh.below⟩):p:=h
def adl{p:Prop}(h:p:=by
  have hJ0:J ({ w with drawn:=w.drawn+1 }:World):=hJ w _ h0 ⟨rfl,rfl,rfl,j' _,λ_ _=>rfl⟩;have hr0:∀i,(Array.replicate l.toArray.size false).getD i false=false:=λi=>(by rw[B9,H5];split<;>rfl);refine key _ _ _ _ ⟨hf.nd,hf.sz,hJ0,by simp,λk o _ hk=> ?_,λk _=>hr0 k,λi d _ hi=> ?_,λs _=>hf.at_ s,λi _ hi=> ?_,λi _ j _ _ hi=> ?_⟩ ?_
  .rw[hr0] at hk;cases hk
  .rw[hr0] at hi;cases hi
  .rw[hr0] at hi;cases hi
  .rw[hr0] at hi;cases hi
  simp[List.countP_replicate]):p:=h
def LP{p:Prop}(h:p:=by
  refine XE ?_;exact⟨rfl,hh.below⟩):p:=h
def ac2{p:Prop}(h:p:=by
  intro ρ1 w1 hj hR;exact Pd rfl (mg (k:=a) mb.out ya.size ((show ρ1 55=Value.slice _ _ _ from hR.1).trans mm) (show ρ1 56=Value.int _ _ from hR.2.1) Z' Z') ⟨Below.refl _ _,rfl⟩):p:=h
def afM{p:Prop}(h:p:=by
  have hn0:=JT (x:=x.ma) (m:=q+1) (i:=n) Z';obtain⟨gq,rfl⟩:=hh.Pb (i:=3) rfl Z';refine fa ?_;refine ub ya.out rfl (hE.ld (hh.sub (.cons _ (.cons _ (A_ _))))) U' ?_;refine fa ?_;refine wb (vs:=[_,_,_]) ya.out rfl (hh.Jd (f:=NR.cells) (x:=nR (x.ma^n)) (l:=HA x.ma (q+1)) (i:=3) rfl NR.len U' hn0) rfl U' ?_;refine Lb ?_;intro ws hh;refine iA ?_;exact⟨rfl,_,_,_,hm1,hh.sub (.cons _ (.cons _ (A_ _)))⟩):p:=h
def acx{p:Prop}(h:p:=by
  refine nV ?_;refine Lb ?_;intro b3 w3 hh;refine eh ?_;intro w12 hh;refine fa ?_;refine Oa hh (hbk _ (hT.hp hh) hh.below) rfl ?_;intro w17 hh;refine fa ?_;exact⟨rfl,hh.below⟩):p:=h
def ae3{p:Prop}(h:p:=by
  unfold ByteArray.toList;have:∀(n i:Nat)(r:List UInt8),s.size-i=n->ByteArray.toList.loop s i r=r.reverse++s.data.toList.drop i:=by
   intro n
   induction n with
   |zero=>
    intro i r h;rw[ByteArray.toList.loop,L' Z',z8 (by rw[Array.length_toList];show s.size<=i;omega)];simp
   |succ n ih=>
    intro i r h;have hi:i<s.size:=Z';rw[ByteArray.toList.loop,J' hi,ih (i+1) _ Z'];have hi2:i<s.data.toList.length:=by rw[Array.length_toList];exact hi
    rw[y8 hi2];have:s.get! i=s.data.toList[i]:=(by show s.data[i]! =_;rw[getElem!_pos s.data i (by simpa using hi2)];simp);simp[this]
  simpa using this (s.size-0) 0 [] rfl):p:=h
def abH{p:Prop}(h:p:=by
  have h16:¬2^24<len*sz:=Z';have hf':=XB _ _ _ hf;rw[<-Vw,hzl] at hf';have hzs:zc.toArray.size=sz:=by simpa using hzl
  have hp':=wN parts hp;simp only[execOp,hp',Instr.buildSlice,Sem.run_bind,run_underlying ht,Result.andThen_ok,Bf hte,gt_iff_lt,L' h16,L' h0,hz,hzc,Sem.run_pure,hzs,hf'];simp[newRow]):p:=h
def sY{p:Prop}(h:p:=by
  exact⟨g,og,rfl,hh.sub (I' _ (R9 _))⟩):p:=h
def EN{p:Prop}(h:p:=by
  refine Lb ?_;intro ws hh;refine VN (td rfl (ud (vs:=[_,_,_]) ya.out (hh.qb (i:=1) (n:=3) rfl rfl) rfl) De) ?_;exact⟨rfl,hh.below⟩):p:=h
def ad4{p:Prop}(h:p:=by
  refine Lb ?_;intro b2 w2 hh;refine eh ?_;intro w7 hh;refine fa ?_;exact⟨rfl,hh.below⟩):p:=h
def agj{p:Prop}(h:p:=by
  obtain rfl:i=fx.m:=Z';refine Lb ?_;intro ws hh;replace hh:=hh.sub (I' _ (p' _ (I' _ (p' _ (I' _ (p' _ I_))))));refine Yk ?_;refine⟨⟨some ⟨gd,0,none⟩,fx.n-1,c33,B,(Tm ap d (d*sd) (fx.cs.map NR.ma) fx.m).length,c1,fx.ds.eraseIdx a,(Tm ap d (d*sd) (fx.cs.map NR.ma) fx.m).map nR⟩,rfl,rfl,by show fx.n-1<=100000;omega, ?_,rfl,hh.sub (o6 [_,_] _)⟩;show(Tm ap d (d*sd) (fx.cs.map NR.ma) fx.m).length<=1000000;unfold Tm;rw[Z_];exact M_ (Z5 _ _) (by rw[q9];omega)):p:=h
def adz{p:Prop}(h:p:=by
  refine fa ?_;refine Ca 7 [[(2,none)],[(3,none)],[(12,some 1)],[(11,some 0),(13,some 2)],[(3,none)],[(2,none)],[(16,some 5)]] [(6,17),(5,16),(4,15),(3,14),(2,13),(1,12),(0,11)] hh mixed T' ?_;refine Yd 1 [_,_,_,_,_,_] ?_;refine Bd ?_;refine Yd 0 [_,_,_] ?_;refine dC (λ_ hj=>h1 _ (hT.hp hj.hp)) ?_;refine Yd 0 [_,_,_,_,_,_] ?_;refine Bd ?_;refine Yd 1 [_,_,_] ?_;refine xa ?_;intro f W hJ hV;have hb_3:=hJ.bl;obtain⟨v17,v16,v15,v14,v13,v12,v11,_⟩:=hV;replace hh:=hJ.hp;refine Ea (Na (aa v17 (aa v16 (aa v15 (aa v14 (aa v13 (aa v12 (aa v11 Da)))))))) ?_;dsimp only[Cb];clear hJ;refine Oa hh (h2 _ (hT.hp hh)) rfl ?_;intro w18 hh;refine Oa hh (hc _ (hT.hp hh)) rfl ?_;intro w19 hh;refine fa ?_;exact⟨rfl,hh.below⟩):p:=h
def WU{p:Prop}(h:p:=by
  refine Lb ?_;intro ws hh;refine Lu ?_;exact⟨PX.nil,tg.err h0,rfl,(hh.sub (R9 _)).cS⟩):p:=h
def aee{p:Prop}(h:p:=by
  refine Zc ?_;refine Xg 3 U' T' U' T' T' ?_;refine tf hh 3 [_,_] ?_;intro ws hh;replace hh:Hp _ (_::_::_::.blk _ _ [_,_] _::_) _:=hh;refine aB (sa (jj ?_));refine qc3 (td rfl (ud (vs:=[_,_]) ya.out (hh.qb (i:=4) (n:=2) rfl rfl) rfl) (td rfl (ud (vs:=[_,_]) ya.out (hh.qb (i:=3) (n:=2) rfl rfl) rfl) (mh (Fk rfl) De))) ?_;exact⟨rfl,hh.below⟩):p:=h
def kU{p:Prop}(h:p:=by
  refine JM ?_;rintro e_ w16 ⟨rfl,hb_⟩;refine⟨_,rfl, ?_⟩;replace hh:=hh.ext hb_;refine fa ?_;exact⟨_,rfl,⟨λ_=>k9.2 ⟨z,G' hz,gz⟩,λ_=>by omega⟩,hh.below⟩):p:=h
def YT{p:Prop}(h:p:=by
  rintro e_ w7 ⟨v_,rfl,hv_,hb_⟩;refine⟨_,rfl, ?_⟩;replace hh:=hh.ext hb_
  cases ga:l.any p with
  |true=>
   have h0:=hv_.2 ga;refine fa ?_;exact⟨rfl,hh.below⟩
  |false=>
   have h0:¬0<=v_:=λh=>by rw[hv_.1 h] at ga;cases ga
   refine fa ?_;exact⟨rfl,hh.below⟩):p:=h
def abt{p:Prop}(h:p:=by
  rw[hds,g8,B8] at hp;obtain⟨⟨x,k⟩,hx,hxe⟩:=hp;rw[List.mem_zipIdx_iff_getElem?] at hx
  cases x with
  |none=>simp at hxe
  |some d'=>
   simp only[K8,P8,Prod.mk.injEq] at hxe;obtain⟨rfl,rfl⟩:=hxe;rw[V_] at hx
   cases hr:(List.range m)[k]? with
   |none=>rw[hr] at hx;simp at hx
   |some y=>
    have hkm:k<m:=(by have:=(X_.1 hr).1;simpa using this);rw[x9 hkm] at hx;simp only[K8,P8] at hx;exact⟨hkm,hx⟩):p:=h
def aeb{p:Prop}(h:p:=by
  exfalso;have hmin:∀k,(∃i,i<k/\i<m/\L.getD i false=false)->∃i,i<m/\L.getD i false=false/\∀j,j<i->L.getD j false=true:=by
   intro k
   induction k with
   |zero=>rintro ⟨i,h,_⟩;omega
   |succ k ihk=>
    rintro ⟨i,h1,h2,h3⟩;by_cases hex:∃i,i<k/\i<m/\L.getD i false=false
    .exact ihk hex
    exact TZ
  obtain⟨i0,h1,h2⟩:=hsome;obtain⟨i,hi,hu,hlow⟩:=hmin (i0+1) ⟨i0,Z',h1,h2⟩;exact NZ):p:=h
def acf{p:Prop}(h:p:=by
  unfold Region.ready;rw[Z8,h_,hnn];constructor
  .rintro ⟨h1,h2⟩;have ho:l.toArray[i]?=some l[i]:=by simp[h1]
   rw[ho] at h2;simp only[K8,m9,Q_,z7] at h2;refine⟨h1,h2.1,l[i],ho,λe he hb=> ?_⟩;have:=F6.1 h2.2 e he;simpa[hb] using this
  rintro ⟨h1,h2,o,ho,h3⟩;refine⟨h1, ?_⟩;rw[ho];exact aaE):p:=h
def MQ{p:Prop}(h:p:=by
  refine Lb ?_;intro ws hh;refine kH ?_;exact⟨g,og,rfl,hh.sub (I' _ (R9 _))⟩):p:=h
def Yu{p:Prop}(h:p:=by
  refine Lb ?_;intro ws hh;exact tZ):p:=h
def rG{p:Prop}(h:p:=by
  refine Vu (c:=cc) mb.out rfl rfl Z' hcc U' ?_;skip;refine yx mb.out mb.out rfl Z' Z' U' ?_;refine mj (aI (sa (jj ?_)));refine qa1 ?_;refine⟨?_,Below.refl _ _⟩;congr 2;rw[hcv];omega):p:=h
def zW9{p:Prop}(h:p:=by
  refine aaf ?_;refine Yd 2 [_,_] ?_;refine dC (λ_ hj=>hfm _) ?_;refine Yd 1 [_,_] ?_;refine xa ?_;intro p_ hp_;simp only[T_,O9,or_false] at hp_;obtain rfl|rfl:=hp_
  .intro f W hJ hV;have hb_10:=hJ.bl;obtain⟨v49,v48,_⟩:=hV;simp only[Gf];have e48:f 0=_:=v48;rw[e48];have e49:f 1=_:=v49;rw[e49];replace hh:=hJ.hp;clear e48 e49 hJ;refine tf hh 2 [_,_] ?_;intro ws hh;replace hh:Hp _ (_::_::.blk _ _ [_,_] _::_) _:=hh;refine Zc ?_;refine Ae (i:=2) T' rfl ?_;refine Lk hh 1 [_,_] ?_;exact aao
  intro f W hJ hV;have hb_10:=hJ.bl;obtain⟨v50,v49,v48,_⟩:=hV;simp only[Gf];have e48:f 0=_:=v48;rw[e48];have e49:f 1=_:=v49;rw[e49];have e50:f 2=_:=v50;rw[e50];replace hh:=hJ.hp;clear e48 e49 e50 hJ;refine tf hh 2 [_,_] ?_;intro ws hh;replace hh:Hp _ (_::_::.blk _ _ [_,_] _::_) _:=hh;exact aao):p:=h
def zW8{p:Prop}(h:p:=by
  refine pr ?_;refine dS (dS (dS (dU (dU (dU (dU ?_))))));refine gF (i:=28) rfl (λρ1 w1 hj hR=>(show ρ1 44=undef from hR.2.2.1)) ?_;refine dU (dU (dU (dU ?_)));refine xa ?_;intro f W hJ hV _;have hb_8:=hJ.bl;obtain⟨v53,v52,v51,v50,v49,v48,v47,v46,v45,v44,v43,v42,v41,v40,v39,v38,v37,v36,v35,v34,v33,v32,v31,v30,v29,v28,v27,v26,v25,v24,v23,v22,v21,_⟩:=hV;replace hh:=hJ.hp;refine ML ?_;exact gR):p:=h
def zW7{p:Prop}(h:p:=by
  refine fa ?_;rw[hs];refine Tb ?_;intro b6 w6 hh ws hh;refine Ca 9 [[(6,none)],[(30,some 0)],[(2,none)],[(31,some 1),(32,some 2)],[(6,none)],[(34,some 4)],[(3,none)],[(35,some 5),(36,some 6)],[(6,none)]] [(8,38),(7,37),(6,36),(5,35),(4,34),(3,33),(2,32),(1,31),(0,30)] hh mixed T' ?_;refine Bd ?_;refine ze 0 ?_;refine Yd 3 [_,_,_] ?_;refine dC (λ_ hj=>hcx _ (hT.hp hj.hp)) ?_;refine Bd ?_;refine ze 0 ?_;refine Yd 2 [_,_,_] ?_;refine dC (λ_ hj=>hcy _ (hT.hp hj.hp)) ?_;refine Bd ?_;refine xa ?_;intro f W hJ hV;have hb_8:=hJ.bl;obtain⟨v38,v37,v36,v35,v34,v33,v32,v31,v30,_⟩:=hV;replace hh:=hJ.hp;refine Ea (Na (aa v38 (aa v37 (aa v36 (aa v35 (aa v34 (aa v33 (aa v32 (aa v31 (aa v30 Da)))))))))) ?_;dsimp only[Cb];clear hJ;refine Dm ?_;intro ws hh ws hh ws hh;refine VN (td rfl (ud (vs:=[_,_,_,_,_]) ya.out (hh.qb (i:=1) (n:=5) rfl rfl) rfl) De) ?_;exact⟨rfl,hh.below⟩):p:=h
def iY{p:Prop}(h:p:=by
  refine Lu ?_;exact oQ):p:=h
def zW5{p:Prop}(h:p:=by
  intro w40 hh;rw[zd];refine wi (sa (cF (nc (Xb (Xa ?_)))));refine Fo hh mixed λw_ hj_=> ?_;replace hh:=hj_.hp;clear hj_;refine Qs (i:=0) (i2:=1) T' rfl rfl ?_ ?_
  .refine Lk hh 1 [_,_] ?_;refine Zc ?_;refine Qs (i:=1) (i2:=2) T' rfl rfl ?_ ?_
   .refine Lk hh 0 [_,_] ?_;exact VZ
   refine tf hh 3 [_,_] ?_;intro ws hh;replace hh:Hp _ (_::_::_::.blk _ _ [_,_] _::_) _:=hh;refine Zc ?_;refine Ae (i:=1) T' rfl ?_;refine Lk hh 0 [_,_] ?_;exact K0
  refine Lk hh 0 [_,_] ?_;refine Zc ?_;refine Ae (i:=0) T' rfl ?_;refine Lk hh 1 [_,_] ?_;exact VZ):p:=h
def gG{p:Prop}(h:p:=by
  refine Lb ?_;intro ws hh;refine iA ?_;exact⟨rfl,hh.below⟩):p:=h
def zW3{p:Prop}(h:p:=by
  refine aaf ?_;refine Yd 1 [_,_] ?_;refine dC (λ_ hj=>hfm _) ?_;refine Yd 0 [_,_] ?_;refine xa ?_;intro p_ hp_;simp only[T_,O9,or_false] at hp_;obtain rfl|rfl:=hp_
  .intro f W hJ hV;have hb_10:=hJ.bl;obtain⟨v49,v48,_⟩:=hV;simp only[Gf];have e48:f 0=_:=v48;rw[e48];have e49:f 1=_:=v49;rw[e49];replace hh:=hJ.hp;clear e48 e49 hJ;refine tf hh 1 [_,_] ?_;intro ws hh;replace hh:Hp _ (_::.blk _ _ [_,_] _::_) _:=hh;refine Zc ?_;refine Ae (i:=2) T' rfl ?_;refine Lk hh 0 [_,_] ?_;exact F0
  intro f W hJ hV;have hb_10:=hJ.bl;obtain⟨v50,v49,v48,_⟩:=hV;simp only[Gf];have e48:f 0=_:=v48;rw[e48];have e49:f 1=_:=v49;rw[e49];have e50:f 2=_:=v50;rw[e50];replace hh:=hJ.hp;clear e48 e49 e50 hJ;refine tf hh 1 [_,_] ?_;intro ws hh;replace hh:Hp _ (_::.blk _ _ [_,_] _::_) _:=hh;exact F0):p:=h
def zW2{p:Prop}(h:p:=by
  refine Zc ?_;refine Xg 18 U' T' U' T' T' ?_;refine Sd (k:=k+i) mb.out ya.size rfl rfl Z' Z' U' ?_;refine Ab hh (i:=3) (vs:=[_]) rfl rfl (dp rfl) rfl ya.out rfl (by rw[ff (by rw[hrc];show k*1+1<=_;omega)];omega) rfl ?_;intro ws hh;replace hh:=show Hp w0 (_::_::_::.row (some ⟨gB,0,none⟩) n c 215 1 (Ib (Ib (na WX.cells rows) (k*1) (WX.cells x)) ((k+i)*1) (WX.cells xk))::RS) ws from hh;refine sa (Jb (mB ?_));refine JI ?_;refine aB (sa ?_);refine⟨hfin _ hh, ?_⟩;repeat refine Wc rfl ?_
  exact λ_ _=>rfl):p:=h
def Sc{p:Prop}(h:p:=by
  exact P'):p:=h
variable {H:Type}{enc:TypeId×Value->H}{P:Program}
def xp(hl:laidOutB P=true){W W':World}(hb:Below W.heap.size W W')(sp:Nat->Bool):∀(ts:List TypeId)(vs:List Value)(ds:List (DataW H))(ps:List MemPlace),(∀t∈ts,P.readableRec t=true/\t<P.types.size)->(∀x∈ps,x.block<W.heap.size)->(∀x∈ps,sp x.block=true)->DataW.TrodAll enc P W 0 (λ_=>true) true ts vs ds ps->DataW.TrodAll enc P W' 0 sp true ts vs ds ps
 |[],vs,ds,ps,_,_,_,h=>(by obtain⟨rfl,rfl,rfl⟩:=trodAll_nil h;exact trodAll_mk0)
 |t::ts,vs,ds,ps,hr,hlt,hsp,h=>by
  obtain⟨v,vs',d,ds',p,q,rfl,rfl,rfl,h0,r0⟩:=trodAll_cons h;refine trodAll_cons_mk (WideElems.Trod_stays hl (hr t q').1 (hr t q').2 h0 (λx hx=>hb.same (hlt x (z9 _ hx))) (λx hx=>hsp x (z9 _ hx))) (xp hl hb sp ts vs' ds' q (λt ht=>hr t (F' _ ht)) (λx hx=>hlt x (T8 _ hx)) (λx hx=>hsp x (T8 _ hx)) r0)
def bU{f:Func}{s:ChangeSpec}{W W':World}{args:Array Value}{ds:List (DataW H)}{before:List MemPlace}{tb:TypeId} (hW:DataW.Whole enc P f.params.toList s.vars false W args.toList ds [] before)(hv:s.vars=[])(hl:laidOutB P=true)(hr:∀t∈f.params.toList,P.readableRec t=true/\t<P.types.size) (hres:f.resultTypes= #[tb])(hbool:P.underlying tb=some .bool)(hs1:(s.fn H (ds++[])).results=[.lit (.bool true)])(hs2:(s.fn H (ds++[])).args=ds)(hs3:(s.fn H (ds++[])).vars=[])(hb:Below W.heap.size W W'):
  s.post enc P f false true false false W args (.bool true) W':=by
 have hlt:∀p∈before,p.block<W.heap.size:=λp hp=>by simpa using hW.lt p hp
 have hold:∀p∈before,(λb=>decide (b<W.heap.size)) p.block=true:=λp hp=>by simpa using hlt p hp
 have hW0:=hW;obtain⟨pa,pv,hA,hV,hps,hz,hn⟩:=hW0;rw[hv] at hV;obtain⟨_,rfl⟩:=trodVars_none hV;have hbp:before=pa:=by rw[hps,n_]
 subst hbp;have hA':∀sp:Nat->Bool,(∀p∈before,sp p.block=true)->DataW.TrodAll enc P W' 0 sp true f.params.toList args.toList (s.fn H (ds++[])).args before:=λsp hsp=>(by rw[hs2];exact xp hl hb sp _ _ _ _ hr hlt hsp hA);have hV':∀sp:Nat->Bool,DataW.TrodVars enc P W' sp s.vars (s.fn H (ds++[])).vars []:=λsp=>(by rw[hv,hs3];rfl);have hR:∀(b:Nat)(sp:Nat->Bool)(hd:Bool),DataW.TrodAll enc P W' b sp hd f.resultTypes.toList ((Value.bool true).resultList f.resultTypes.size) (s.fn H (ds++[])).results []:=λb sp hd=>(by rw[hres,hs1];exact trodAll_cons_mk (shut_bool hbool _) trodAll_mk0);refine⟨ds,[],before,[],before,[],hW,hR _ _ _,hA' _ hold,hV' _,World.keptBut_mono (λp hp=>⟨hp, ?_⟩) (hb.frame (· ∈before)),λ_=> ?_⟩
 .exact .inr (.inl hp)
 refine⟨ok_one hres rfl (okWide_bool_mk hbool _),_,_,([]++before)++[],⟨[]++before,[],trodAll_append (hA' _ (λ_ _=>rfl)) (hR _ _ _),hV' _,rfl, ?_, ?_⟩, ?_⟩
 .intro b off hp;have hp2:=hz b off (by simpa using hp);rw[hb.frozen (hlt _ (by simpa using hp))];exact hp2
 .intro ha
  cases ha
 intro p hp _;simpa using hp
end Go.Proofs.YtbencocchdpikaaGreatDoor
