/- Lemmas for solveAll, part 1. -/
import Derived.KernelRfl
import Derived.Test.YtbencocchdpikaaGreatDoorRows
import Derived.WalkKit
import Derived.ProofKit
import Derived.OpenShut
import Derived.Carry
set_option linter.all false
set_option maxHeartbeats 0
namespace Go.Proofs.YtbencocchdpikaaGreatDoor
open Go.Proofs.Tryz
open Go.ChangeShapes Go.WideShapes Go.ChangeAt Go.RowKit
def L':type_of% @if_neg:=@if_neg
def J':type_of% @if_pos:=@if_pos
def I':type_of% @List.Sublist.cons_cons:=@List.Sublist.cons_cons
def G':type_of% @List.mem_of_getElem?:=@List.mem_of_getElem?
def F':type_of% @List.mem_cons_of_mem:=@List.mem_cons_of_mem
def E':type_of% @List.nil_append:=@List.nil_append
def D':type_of% @Nat.zero_le:=@Nat.zero_le
def C':type_of% @List.cons_append:=@List.cons_append
def q':type_of% @List.mem_cons_self:=@List.mem_cons_self
def p':type_of% @List.Sublist.cons:=@List.Sublist.cons
def j':type_of% @Nat.le_refl:=@Nat.le_refl
def i':type_of% @List.length_map:=@List.length_map
def Z_:type_of% @List.mem_map:=@List.mem_map
def Y_:type_of% @List.length_append:=@List.length_append
def X_:type_of% @List.getElem?_eq_some_iff:=@List.getElem?_eq_some_iff
def W_:type_of% @List.take_of_length_le:=@List.take_of_length_le
def V_:type_of% @List.getElem?_map:=@List.getElem?_map
def U_:type_of% @List.set_cons_zero:=@List.set_cons_zero
def T_:type_of% @List.mem_singleton:=@List.mem_singleton
def S_:type_of% @List.mem_cons:=@List.mem_cons
def R_:type_of% @List.length_take:=@List.length_take
def Q_:type_of% @Bool.and_eq_true:=@Bool.and_eq_true
def P_:type_of% @List.perm_middle:=@List.perm_middle
def O_:type_of% @decide_eq_false:=@decide_eq_false
def N_:type_of% @Nat.le_trans:=@Nat.le_trans
def M_:type_of% @decide_eq_true:=@decide_eq_true
def L_:type_of% @Option.some.inj:=@Option.some.inj
def K_:type_of% @decide_eq_true_eq:=@decide_eq_true_eq
def J_:type_of% @congrArg:=@congrArg
def I_:type_of% @Nat.mul_one:=@Nat.mul_one
def H_:type_of% @List.Sublist.slnil:=@List.Sublist.slnil
def G_:type_of% @Nat.mul_comm:=@Nat.mul_comm
def F_:type_of% @List.set_cons_succ:=@List.set_cons_succ
def E_:type_of% @List.length_cons:=@List.length_cons
def D_:type_of% @Nat.pow_add:=@Nat.pow_add
def C_:type_of% @Nat.zero_add:=@Nat.zero_add
def B_:type_of% @Nat.mod_lt:=@Nat.mod_lt
def A_:type_of% @List.Sublist.refl:=@List.Sublist.refl
def z_:type_of% @List.mem_append:=@List.mem_append
def u_:type_of% @List.all_eq_true:=@List.all_eq_true
def t_:type_of% @List.getElem?_eq_none:=@List.getElem?_eq_none
def s_:type_of% @List.sublist_cons_self:=@List.sublist_cons_self
def r_:type_of% @Nat.pow_pos:=@Nat.pow_pos
def q_:type_of% @List.map_cons:=@List.map_cons
def o_:type_of% @List.append_nil:=@List.append_nil
def n_:type_of% @List.map_append:=@List.map_append
def m_:type_of% @Nat.pow_le_pow_right:=@Nat.pow_le_pow_right
def l_:type_of% @List.append_assoc:=@List.append_assoc
def k_:type_of% @Nat.mul_le_mul_left:=@Nat.mul_le_mul_left
def j_:type_of% @List.mem_iff_getElem?:=@List.mem_iff_getElem?
def i_:type_of% @Nat.pow_succ:=@Nat.pow_succ
def h_:type_of% @Nat.mod_eq_of_lt:=@Nat.mod_eq_of_lt
def g_:type_of% @List.mem_range:=@List.mem_range
def f_:type_of% @Nat.sub_self:=@Nat.sub_self
def d_:type_of% @Bool.false_or:=@Bool.false_or
def c_:type_of% @List.length_reverse:=@List.length_reverse
def Z9:type_of% @List.map_map:=@List.map_map
def Y9:type_of% @Nat.lt_or_ge:=@Nat.lt_or_ge
def X9:type_of% @Nat.mul_add:=@Nat.mul_add
def W9:type_of% @Nat.pow_mul:=@Nat.pow_mul
def V9:type_of% @List.ext_getElem?:=@List.ext_getElem?
def U9:type_of% @List.length_set:=@List.length_set
def T9:type_of% @Nat.lt_of_lt_of_le:=@Nat.lt_of_lt_of_le
def S9:type_of% @Nat.lt_of_le_of_lt:=@Nat.lt_of_le_of_lt
def R9:type_of% @List.nil_sublist:=@List.nil_sublist
def Q9:type_of% @List.getElem?_mapIdx:=@List.getElem?_mapIdx
def P9:type_of% @List.take_append_drop:=@List.take_append_drop
def O9:type_of% @List.not_mem_nil:=@List.not_mem_nil
def N9:type_of% @Nat.mul_le_mul_right:=@Nat.mul_le_mul_right
def M9:type_of% @List.length_drop:=@List.length_drop
def L9:type_of% @Nat.div_eq_of_lt:=@Nat.div_eq_of_lt
def K9:type_of% @List.getD_eq_getElem?_getD:=@List.getD_eq_getElem?_getD
def J9:type_of% @Nat.mul_assoc:=@Nat.mul_assoc
def I9:type_of% @List.getElem?_append_right:=@List.getElem?_append_right
def H9:type_of% @List.length_replicate:=@List.length_replicate
def G9:type_of% @List.map_nil:=@List.map_nil
def F9:type_of% @List.getElem?_set:=@List.getElem?_set
def E9:type_of% @Nat.div_add_mod:=@Nat.div_add_mod
def D9:type_of% @Nat.div_lt_iff_lt_mul:=@Nat.div_lt_iff_lt_mul
def C9:type_of% @Nat.min_eq_left:=@Nat.min_eq_left
def B9:type_of% @of_decide_eq_true:=@of_decide_eq_true
def z9:type_of% @List.getElem?_range:=@List.getElem?_range
def y9:type_of% @Array.getD_eq_getD_getElem?:=@Array.getD_eq_getD_getElem?
def x9:type_of% @List.mem_append_left:=@List.mem_append_left
def u9:type_of% @List.length_range:=@List.length_range
def q9:type_of% @Nat.add_zero:=@Nat.add_zero
def p9:type_of% @List.any_eq_false:=@List.any_eq_false
def o9:type_of% @Nat.mul_le_mul:=@Nat.mul_le_mul
def n9:type_of% @Nat.succ_mul:=@Nat.succ_mul
def m9:type_of% @Int.natCast_mul:=@Int.natCast_mul
def l9:type_of% @Option.getD_some:=@Option.getD_some
def k9:type_of% @List.any_eq_true:=@List.any_eq_true
def j9:type_of% @List.mem_filter:=@List.mem_filter
def Z8:type_of% @List.map_set:=@List.map_set
def Y8:type_of% @List.pairwise_cons:=@List.pairwise_cons
def X8:type_of% @List.getElem?_append_left:=@List.getElem?_append_left
def W8:type_of% @List.mem_append_right:=@List.mem_append_right
def V8:type_of% @Nat.div_div_eq_div_mul:=@Nat.div_div_eq_div_mul
def U8:type_of% @Int.natAbs_mul:=@Int.natAbs_mul
def T8:type_of% @Option.map_eq_some_iff:=@Option.map_eq_some_iff
def S8:type_of% @Option.some.injEq:=@Option.some.injEq
def R8:type_of% @beq_iff_eq:=@beq_iff_eq
def Q8:type_of% @Nat.add_mul_div_left:=@Nat.add_mul_div_left
def P8:type_of% @List.range_succ:=@List.range_succ
def O8:type_of% @Nat.mul_succ:=@Nat.mul_succ
def N8:type_of% @List.mem_of_mem_take:=@List.mem_of_mem_take
def M8:type_of% @Option.map_some:=@Option.map_some
def L8:type_of% @List.getElem?_zipWith:=@List.getElem?_zipWith
def K8:type_of% @List.take_zero:=@List.take_zero
def J8:type_of% @List.mem_or_eq_of_mem_set:=@List.mem_or_eq_of_mem_set
def I8:type_of% @Bool.and_eq_true_iff:=@Bool.and_eq_true_iff
def H8:type_of% @List.getElem?_drop:=@List.getElem?_drop
def G8:type_of% @Int.sign_eq_one_of_pos:=@Int.sign_eq_one_of_pos
def F8:type_of% @Int.natCast_add:=@Int.natCast_add
def E8:type_of% @Int.sign_eq_neg_one_of_neg:=@Int.sign_eq_neg_one_of_neg
def D8:type_of% @List.getElem?_eq_getElem:=@List.getElem?_eq_getElem
def C8:type_of% @List.eq_nil_of_length_eq_zero:=@List.eq_nil_of_length_eq_zero
def B8:type_of% @List.drop_of_length_le:=@List.drop_of_length_le
def z8:type_of% @List.mem_filterMap:=@List.mem_filterMap
def y8:type_of% @List.map_congr_left:=@List.map_congr_left
def x8:type_of% @Nat.eq_zero_or_pos:=@Nat.eq_zero_or_pos
def q8:type_of% @List.set_append_right:=@List.set_append_right
def p8:type_of% @Int.toNat_natCast:=@Int.toNat_natCast
def o8:type_of% @Nat.add_comm:=@Nat.add_comm
def n8:type_of% @Nat.mul_lt_mul_of_pos_right:=@Nat.mul_lt_mul_of_pos_right
def m8:type_of% @List.drop_eq_getElem_cons:=@List.drop_eq_getElem_cons
def l8:type_of% @Nat.div_le_self:=@Nat.div_le_self
def k8:type_of% @List.getElem?_reverse:=@List.getElem?_reverse
def j8:type_of% @List.getElem?_toArray:=@List.getElem?_toArray
def g8:type_of% @List.mem_reverse:=@List.mem_reverse
def a8:type_of% @Classical.byContradiction:=@Classical.byContradiction
def Z7:type_of% @List.getElem?_take:=@List.getElem?_take
def Y7:type_of% @Nat.one_mul:=@Nat.one_mul
def X7:type_of% @Int.natAbs_pow:=@Int.natAbs_pow
def W7:type_of% @Dyadic.one_mul:=@Dyadic.one_mul
def V7:type_of% @List.foldl_append:=@List.foldl_append
def U7:type_of% @List.mem_flatMap:=@List.mem_flatMap
def T7:type_of% @Nat.add_mul:=@Nat.add_mul
def S7:type_of% @Dyadic.add_zero:=@Dyadic.add_zero
def R7:type_of% @Nat.add_mul_mod_self_left:=@Nat.add_mul_mod_self_left
def Q7:type_of% @List.length_mapIdx:=@List.length_mapIdx
def P7:type_of% @Classical.not_not:=@Classical.not_not
def O7:type_of% @Nat.div_one:=@Nat.div_one
def N7:type_of% @Nat.mul_zero:=@Nat.mul_zero
def M7:type_of% @Dyadic.zero_add:=@Dyadic.zero_add
def L7:type_of% @List.find?_eq_none:=@List.find?_eq_none
def K7:type_of% @List.filter_append:=@List.filter_append
def J7:type_of% @List.map_singleton:=@List.map_singleton
def I7:type_of% @List.nodup_cons:=@List.nodup_cons
def H7:type_of% @Nat.mul_pos:=@Nat.mul_pos
def G7:type_of% @List.flatMap_cons:=@List.flatMap_cons
def F7:type_of% @List.foldl_cons:=@List.foldl_cons
def E7:type_of% @Option.bind_some:=@Option.bind_some
def D7:type_of% @List.reverse_cons:=@List.reverse_cons
def C7:type_of% @Bool.or_eq_true:=@Bool.or_eq_true
def B7:type_of% @List.replicate_succ:=@List.replicate_succ
def z7:type_of% @Bool.not_eq_true':=@Bool.not_eq_true'
def y7:type_of% @Int.natAbs_ediv_le_natAbs:=@Int.natAbs_ediv_le_natAbs
def x7:type_of% @List.any_cons:=@List.any_cons
def u7:type_of% @List.drop_drop:=@List.drop_drop
def q7:type_of% @List.flatMap_append:=@List.flatMap_append
def p7:type_of% @Dyadic.pow_zero:=@Dyadic.pow_zero
def o7:type_of% @List.filterMap_cons:=@List.filterMap_cons
def n7:type_of% @List.any_append:=@List.any_append
def m7:type_of% @Int.mul_neg:=@Int.mul_neg
def l7:type_of% @Int.natCast_nonneg:=@Int.natCast_nonneg
def k7:type_of% @List.take_succ_cons:=@List.take_succ_cons
def j7:type_of% @List.drop_zero:=@List.drop_zero
def g7:type_of% @List.length_nil:=@List.length_nil
def a7:type_of% @List.length_zipWith:=@List.length_zipWith
def Z6:type_of% @List.length_eq_zero_iff:=@List.length_eq_zero_iff
def Y6:type_of% @Int.neg_neg:=@Int.neg_neg
def X6:type_of% @Nat.zero_mul:=@Nat.zero_mul
def W6:type_of% @Int.le_refl:=@Int.le_refl
def V6:type_of% @List.getElem?_zip_eq_some:=@List.getElem?_zip_eq_some
def U6:type_of% @List.getElem?_cons_zero:=@List.getElem?_cons_zero
def T6:type_of% @List.any_nil:=@List.any_nil
def S6:type_of% @List.size_toArray:=@List.size_toArray
def R6:type_of% @Nat.add_assoc:=@Nat.add_assoc
def Q6:type_of% @Nat.pow_zero:=@Nat.pow_zero
def P6:type_of% @Nat.mod_add_div:=@Nat.mod_add_div
def O6:type_of% @List.perm_append_comm:=@List.perm_append_comm
def N6:type_of% @List.getElem?_cons_succ:=@List.getElem?_cons_succ
def M6:type_of% @List.exists_cons_of_ne_nil:=@List.exists_cons_of_ne_nil
def L6:type_of% @Array.ext':=@Array.ext'
def K6:type_of% @UInt8.toNat_inj:=@UInt8.toNat_inj
def J6:type_of% @List.map_drop:=@List.map_drop
def I6:type_of% @decide_eq_false_iff_not:=@decide_eq_false_iff_not
def H6:type_of% @Nat.lt_of_not_le:=@Nat.lt_of_not_le
def G6:type_of% @Nat.mul_left_comm:=@Nat.mul_left_comm
def F6:type_of% @Array.all_eq_true':=@Array.all_eq_true'
def E6:type_of% @Bool.not_true:=@Bool.not_true
def D6:type_of% @Int.lt_trichotomy:=@Int.lt_trichotomy
def C6:type_of% @List.map_id':=@List.map_id'
def B6:type_of% @List.find?_some:=@List.find?_some
def z6:type_of% @List.take_length:=@List.take_length
def y6:type_of% @Bool.eq_false_iff:=@Bool.eq_false_iff
def x6:type_of% @List.sum_cons:=@List.sum_cons
def u6:type_of% @List.reverse_reverse:=@List.reverse_reverse
def q6:type_of% @Int.mul_comm:=@Int.mul_comm
def p6:type_of% @List.replicate_zero:=@List.replicate_zero
def o6:type_of% @Array.getElem?_eq_getElem:=@Array.getElem?_eq_getElem
def n6:type_of% @Int.sign_eq_zero_iff_zero:=@Int.sign_eq_zero_iff_zero
def m6:type_of% @List.length_filter_le:=@List.length_filter_le
def l6:type_of% @List.mem_of_mem_drop:=@List.mem_of_mem_drop
def k6:type_of% @Nat.le_of_not_lt:=@Nat.le_of_not_lt
def j6:type_of% @UInt8.toNat_ofNat':=@UInt8.toNat_ofNat'
def a6:type_of% @List.mem_map_of_mem:=@List.mem_map_of_mem
def Z5:type_of% @List.all_append:=@List.all_append
def Y5:type_of% @List.mem_replicate:=@List.mem_replicate
def X5:type_of% @List.set_eq_take_append_cons_drop:=@List.set_eq_take_append_cons_drop
def W5:type_of% @Dyadic.mul_zero:=@Dyadic.mul_zero
def V5:type_of% @List.cons.injEq:=@List.cons.injEq
def U5:type_of% @Dyadic.pow_succ:=@Dyadic.pow_succ
def T5:type_of% @Int.eq_ofNat_of_zero_le:=@Int.eq_ofNat_of_zero_le
def S5:type_of% @List.Pairwise.nil:=@List.Pairwise.nil
def R5:type_of% @Nat.mul_lt_mul'':=@Nat.mul_lt_mul''
def Q5:type_of% @Bool.false_eq_true:=@Bool.false_eq_true
def P5:type_of% @List.sublist_append_left:=@List.sublist_append_left
def O5:type_of% @List.contains_iff_mem:=@List.contains_iff_mem
def N5:type_of% @List.filterMap_append:=@List.filterMap_append
def M5:type_of% @Bool.and_eq_false_iff:=@Bool.and_eq_false_iff
def L5:type_of% @Nat.le_mul_of_pos_right:=@Nat.le_mul_of_pos_right
def K5:type_of% @List.getElem?_replicate:=@List.getElem?_replicate
def J5:type_of% @List.getElem?_eq_none_iff:=@List.getElem?_eq_none_iff
def I5:type_of% @List.pairwise_append:=@List.pairwise_append
def H5:type_of% @Array.getElem?_replicate:=@Array.getElem?_replicate
def F5:type_of% @List.drop_eq_nil_of_le:=@List.drop_eq_nil_of_le
def E5:type_of% @List.pairwise_singleton:=@List.pairwise_singleton
def D5:type_of% @List.countP_singleton:=@List.countP_singleton
def C5:type_of% @List.filter_cons_of_neg:=@List.filter_cons_of_neg
def B5:type_of% @List.find?_cons_of_pos:=@List.find?_cons_of_pos
def y5:type_of% @Array.getElem?_eq_none:=@Array.getElem?_eq_none
def zL0:List (List (Nat×Option Nat)):=[[(4,none)],[(21,some 0)],[(1,none)],[(23,some 2)],[(22,some 1),(24,some 3)],[(25,some 4)],[(26,some 5)],[(4,none),(27,some 6)],[(28,some 7),(27,some 6)],[(29,some 8),(27,some 6)],[(30,some 9),(27,some 6)],[(27,some 6),(31,some 10)],[(32,some 11)],[(4,none),(33,some 12)],[(34,some 13),(33,some 12)],[(35,some 14),(33,some 12)],[(4,none),(33,some 12)],[(37,some 16),(33,some 12)],[(36,some 15),(38,some 17),(33,some 12)],[(33,some 12),(39,some 18)],[(40,some 19)],[(3,none),(41,some 20)],[(42,some 21),(41,some 20)],[(43,some 22),(41,some 20)],[(1,none),(44,some 23)],[(45,some 24),(44,some 23)],[(3,none),(44,some 23)],[(47,some 26),(44,some 23)],[(46,some 25),(48,some 27),(44,some 23)],[(49,some 28),(44,some 23)],[(50,some 29),(44,some 23)],[(4,none),(44,some 23)],[(52,some 31),(44,some 23)]]
def zL1:List Nat:=[0,1,0,4,15,31,63,127,255,511,1023,2047,4095,8191,16383,32767,8191,73727,262143,524287,1048575,2097151,4194303,8388607,16777215,33554431,16777215,83886079,268435455,536870911,1073741823,16777215,2164260863,8589934591,17179869183,34359738367]
def zL2:List Nat:=[15,16,67,68,69,70,71,72,73,74,75,76,77,78,79,80,81,82,83,84,85]
def zL3:List Nat:=[16,18,102,103,104,105,106,107,108,109,110,111,112,113,114,115,116,117,118,119,120]
def zL4:List Nat:=[14,53,54,55,56,57,58,59,60,61,62,63,64,65,66,67,68,69]
def zL5:List Nat:=[23,24,25,26,27,28,29,30,31,32,33,34,35,36,37,38,39,40,41,42,43,44,45,46,47,48,49,50,51,52,53]
def Z'{p:Prop}(h:p:=by omega):p:=h
def U'{p:Prop}(h:p:=by decide):p:=h
def T'{p:Prop}(h:p:=by kernel_rfl):p:=h
def mH{P Q:Prop}(p:P)(h:P->Q:=by intro kQ;exact TI (b:=4294967295) rfl rfl (by first|assumption|omega) (by first|assumption|omega) U' kQ):Q:=h p
def lu{P Q:Prop}(p:P)(h:P->Q:=by intro kQ;exact Kl (s:=32) (m:=4294967296) rfl rfl U' U' U' kQ):Q:=h p
def KL{P Q:Prop}(p:P)(h:P->Q:=by intro kQ;exact Kl (s:=8) (m:=256) rfl rfl U' U' U' kQ):Q:=h p
def Sk{P Q:Prop}(p:P)(h:P->Q:=by intro kQ;exact vJ lb.out lb.out rfl (by first|assumption|omega) U' kQ):Q:=h p
def KM{P Q:Prop}(p:P)(h:P->Q:=by intro kQ;exact It (ua (cF (Mc (wc (sr (mI (mI kQ)))))))):Q:=h p
def HL{P Q:Prop}(p:P)(h:P->Q:=by intro kQ;exact zd (k:=j) lb.out ya.size rfl rfl Z' Z' U' kQ):Q:=h p
def Tm{P Q:Prop}(p:P)(h:P->Q:=by intro kQ;exact ub ya.out rfl ((hr.ext hh.below).aw (by assumption)) U' kQ):Q:=h p
def GF{P Q:Prop}(p:P)(h:P->Q:=by intro kQ;exact aeO rfl rfl (by first|assumption|omega) (by first|assumption|omega) U' kQ):Q:=h p
def YV{P Q:Prop}(p:P)(h:P->Q:=by intro kQ;exact Ab hh (i:=0) (vs:=[_]) rfl rfl (Bc rfl) rfl ya.out rfl (by rw[Ma,Ja];omega) rfl kQ):Q:=h p
def bT{P Q:Prop}(p:P)(h:P->Q:=by intro kQ;exact Ca 8 [[(0,none)],[(5,none)],[(28,some 0),(29,some 1)],[(30,some 2)],[(1,none)],[(5,none)],[(32,some 4),(33,some 5)],[(34,some 6)]] [(7,35),(6,34),(5,33),(4,32),(3,31),(2,30),(1,29),(0,28)] hh mixed T' kQ):Q:=h p
def sF{P Q:Prop}(p:P)(h:P->Q:=by intro kQ;exact Ro (λ_ hj=>(hr.ext hj.hp.below).aw hx3) kQ):Q:=h p
def yF{P Q:Prop}(p:P)(h:P->Q:=by intro kQ;exact Ro (λ_ hj=>(hs.ext hj.hp.below).aw hy3) kQ):Q:=h p
def HQ{P Q:Prop}(p:P)(h:P->Q:=by intro kQ;exact Da (Na (aa v35 (aa v34 (aa v33 (aa v32 (aa v31 (aa v30 (aa v29 (aa v28 Ea))))))))) kQ):Q:=h p
def aad{P Q:Prop}(p:P)(h:P->Q:=by intro kQ;exact Ca 8 [[(0,none)],[(5,none)],[(38,some 0),(39,some 1)],[(40,some 2)],[(1,none)],[(5,none)],[(42,some 4),(43,some 5)],[(44,some 6)]] [(7,45),(6,44),(5,43),(4,42),(3,41),(2,40),(1,39),(0,38)] hh mixed T' kQ):Q:=h p
def aay{P Q:Prop}(p:P)(h:P->Q:=by intro kQ;exact Da (Na (aa v45 (aa v44 (aa v43 (aa v42 (aa v41 (aa v40 (aa v39 (aa v38 Ea))))))))) kQ):Q:=h p
def MF{P Q:Prop}(p:P)(h:P->Q:=by intro kQ;exact Bi (ua (mb (cT (Mc (wc (mb (cg (sr (mI (aI (ua (sr (aI (ua (mb (sr (mI (mL (Vq kQ)))))))))))))))))))):Q:=h p
def wR{P Q:Prop}(p:P)(h:P->Q:=by intro kQ;exact zd (k:=done.length) lb.out ya.size rfl rfl Z' Z' U' kQ):Q:=h p
def Aj{P Q:Prop}(p:P)(h:P->Q:=by intro kQ;exact ub ya.out rfl (hh.Zc (i:=0) rfl (by first|assumption|(simp only[I_];assumption))) U' kQ):Q:=h p
def Xo{P Q:Prop}(p:P)(h:P->Q:=by intro kQ;exact Gl (k:=done.length) lb.out ya.size rfl rfl Z' Z' U' kQ):Q:=h p
def kB{P Q:Prop}(p:P)(h:P->Q:=by intro kQ;exact Ab hh (i:=0) (vs:=[_]) rfl rfl (Bc rfl) rfl ya.out rfl (by rw[Ma];simp only[Y_,E_];omega) rfl kQ):Q:=h p
def fB{P Q:Prop}(p:P)(h:P->Q:=by intro kQ;exact vc hh (cs:=[_]) lb.out ya.out (Rb (Bc rfl) oe) rfl rfl U' U' U' rfl U' kQ):Q:=h p
def Ju{P Q:Prop}(p:P)(h:P->Q:=by intro kQ;exact qa (vh a _ ha) ja.out rfl U' kQ):Q:=h p
def HM{P Q:Prop}(p:P)(h:P->Q:=by intro kQ;exact qa (vh b _ hb) ja.out rfl U' kQ):Q:=h p
def TF{P Q:Prop}(p:P)(h:P->Q:=by intro kQ;exact Oa hh (Ep _ _ _ _ _ _ (Ha 18446744073709551616 (bN a)) (Ha 18446744073709551616 (bN b)) _ (hh.ra (i:=1) rfl) (hh.ra (i:=0) rfl) (Uf _) (Uf _) (hh.Ve (i:=1) rfl) (hh.Ve (i:=0) rfl) Z' Z') rfl kQ):Q:=h p
def NL{P Q:Prop}(p:P)(h:P->Q:=by intro kQ;exact ak rfl rfl (by first|rfl|assumption|decide) U' kQ):Q:=h p
def qN{P Q:Prop}(p:P)(h:P->Q:=by intro kQ;exact Zj rfl rfl (by first|assumption|decide) U' kQ):Q:=h p
def mr{P Q:Prop}(p:P)(h:P->Q:=by intro kQ;exact jP (qd rfl (pd (vs:=[_,_]) ya.out (hh.pb (i:=0) (n:=2) rfl rfl) rfl) Be) kQ):Q:=h p
def pQ{P Q:Prop}(p:P)(h:P->Q:=by intro kQ;exact da (N:=13) (l:=[.agg #[.bool s,.string m]]) func87 rfl rfl (by simp) kQ):Q:=h p
def sM{P Q:Prop}(p:P)(h:P->Q:=by intro kQ;exact KX lb.out rfl rfl (by first|rfl|assumption|decide) U' kQ):Q:=h p
def aaF{P Q:Prop}(p:P)(h:P->Q:=by intro kQ;exact Da (Na (aa v14 (aa v13 (aa v12 (aa v11 (aa v10 (aa v9 (aa v8 (aa v7 (aa v6 (aa v5 Ea))))))))))) kQ):Q:=h p
def eB{P Q:Prop}(p:P)(h:P->Q:=by intro kQ;exact Da (Na (aa v7 (aa v6 (aa v5 Ea)))) kQ):Q:=h p
def jE{P Q:Prop}(p:P)(h:P->Q:=by intro kQ;exact vc hh (cs:=[_,_,_,_]) lb.out ya.out (Rb (Ld rfl) (Rb (Ld rfl) oe)) rfl rfl U' U' U' rfl U' kQ):Q:=h p
def IM{P Q:Prop}(p:P)(h:P->Q:=by intro kQ;exact Ca 10 [[(2,none)],[(18,some 0)],[(1,none)],[(20,some 2)],[(19,some 1),(21,some 3)],[(2,none)],[(23,some 5)],[(22,some 4),(24,some 6)],[(25,some 7)],[]] [(9,5),(8,26),(7,25),(6,24),(5,23),(4,22),(3,21),(2,20),(1,19),(0,18)] hh mixed T' kQ):Q:=h p
def ZL{P Q:Prop}(p:P)(h:P->Q:=by intro kQ;exact Wa (i:=3) (λρ1 w1 hj hR=>xV (show ρ1 20=Value.int _ _ from hR.1) Z' Z') kQ):Q:=h p
def qM{P Q:Prop}(p:P)(h:P->Q:=by intro kQ;exact Va (i:=9) (Gc _ 28 _) Gc.ext (λρ1 w1 hj hR=>Ui ya.out hj.bl (λv w2 h hb=>⟨hb,h⟩)) kQ):Q:=h p
def OK{P Q:Prop}(p:P)(h:P->Q:=by intro kQ;exact Da (Na (aa e5 (aa v26 (aa v25 (aa v24 (aa v23 (aa v22 (aa v21 (aa v20 (aa v19 (aa v18 Ea))))))))))) kQ):Q:=h p
def pU{P Q:Prop}(p:P)(h:P->Q:=by intro kQ;exact da (N:=47) (l:=[.agg #[.bool true,.string a],.int .i64 (-(m:Int))]) func198 rfl rfl (by simp) kQ):Q:=h p
def lS{P Q:Prop}(p:P)(h:P->Q:=by intro kQ;exact da (N:=41) (l:=[.agg #[.bool a.neg,.string a.Qa,.int .i64 a.e],.agg #[.bool b.neg,.string b.Qa,.int .i64 b.e]]) func81 rfl rfl (by simp) kQ):Q:=h p
def MT{P Q:Prop}(p:P)(h:P->Q:=by intro kQ;exact Ca 3 [[(2,none)],[(7,some 0)],[(3,none)]] [(2,9),(1,8),(0,7)] hh mixed T' kQ):Q:=h p
def mU{P Q:Prop}(p:P)(h:P->Q:=by intro kQ;exact dC (λ_ hj=>Ed a _ (hT.hp hj.hp) Z' Z' Z') kQ):Q:=h p
def vZ{P Q:Prop}(p:P)(h:P->Q:=by intro kQ;exact da (N:=28) (l:=[.agg #[.bool a.neg,.string a.Qa,.int .i64 a.e],.agg #[.bool b.neg,.string b.Qa,.int .i64 b.e]]) func26 rfl rfl (by simp) kQ):Q:=h p
def JK{P Q:Prop}(p:P)(h:P->Q:=by intro kQ;exact wb (vs:=[_,_,_]) ya.out rfl (((hr.ext hh.below).recAt NR.len hx)) rfl U' kQ):Q:=h p
def Rq{P Q:Prop}(p:P)(h:P->Q:=by intro kQ;exact vc hh (cs:=[_,_,_,_,_,_]) lb.out ya.out (Rb (Ld rfl) (Rb (Ld rfl) oe)) rfl rfl U' U' U' rfl U' kQ):Q:=h p
def iF{P Q:Prop}(p:P)(h:P->Q:=by intro kQ;exact Oa hh (Tk 1 _ (hT.hp hh) Z' Z') rfl kQ):Q:=h p
def aU{P Q:Prop}(p:P)(h:P->Q:=by intro kQ;exact TI (b:=1) rfl rfl (by first|assumption|omega) (by first|assumption|omega) U' kQ):Q:=h p
def Vr{P Q:Prop}(p:P)(h:P->Q:=by intro kQ;exact Gb hh (i:=1) rfl rfl rfl (hh.ra (i:=0) rfl) lb.out ya.out rfl U' (by first|rfl|exact Xb _|exact Nb _|exact Pa _|exact Ta NR.one _) Z' Z' U' kQ):Q:=h p
def CE{P Q:Prop}(p:P)(h:P->Q:=by intro kQ;exact Oa hh (zi A n c j xs _ (hx.ext hh.below) hdx Z' Z') rfl kQ):Q:=h p
def nG{P Q:Prop}(p:P)(h:P->Q:=by intro kQ;exact Oa hh (zi B m c' j ys _ (hy.ext hh.below) hdy Z' Z') rfl kQ):Q:=h p
def vF{P Q:Prop}(p:P)(h:P->Q:=by intro kQ;exact Me (n:=n) hh rfl rfl Z' Z' lb.out ya.out rfl Z' Z' U' kQ):Q:=h p
def kA{P Q:Prop}(p:P)(h:P->Q:=by intro kQ;exact Up rfl rfl Z' U' kQ):Q:=h p
def vR{P Q:Prop}(p:P)(h:P->Q:=by intro kQ;exact Ab hh (i:=0) (vs:=[_]) rfl rfl (Bc rfl) rfl ya.out rfl (by rw[hll];omega) rfl kQ):Q:=h p
def kF{P Q:Prop}(p:P)(h:P->Q:=by intro kQ;exact qa (tf a _ ha) ja.out rfl U' kQ):Q:=h p
def fU{P Q:Prop}(p:P)(h:P->Q:=by intro kQ;exact Oa hh (Ng _ _ _ (Ha 2 (bN m)) _ (hh.ra (i:=0) rfl) (Yj _) (hh.Ve (i:=0) rfl) Z') rfl kQ):Q:=h p
def nF{P Q:Prop}(p:P)(h:P->Q:=by intro kQ;exact jP (qd rfl (pd (vs:=[_,_]) ya.out (hh.pb (i:=1) (n:=2) rfl rfl) rfl) Be) kQ):Q:=h p
def CA{P Q:Prop}(p:P)(h:P->Q:=by intro kQ;exact jP (qd rfl (pd (vs:=[_,_,_]) ya.out (hh.pb (i:=0) (n:=3) rfl rfl) rfl) Be) kQ):Q:=h p
def mM{P Q:Prop}(p:P)(h:P->Q:=by intro kQ;exact da (N:=38) (l:=[.agg #[.bool a.neg,.string a.Qa,.int .i64 a.e],.agg #[.bool b.neg,.string b.Qa,.int .i64 b.e]]) func108 rfl rfl (by simp) kQ):Q:=h p
def oL{P Q:Prop}(p:P)(h:P->Q:=by intro kQ;exact Ca 3 [[(2,none)],[(5,some 0)],[(3,none)]] [(2,7),(1,6),(0,5)] hh mixed T' kQ):Q:=h p
def VM{P Q:Prop}(p:P)(h:P->Q:=by intro kQ;exact dC (λ_ hj=>Mm a _ Z' Z' Z') kQ):Q:=h p
def bL{P Q:Prop}(p:P)(h:P->Q:=by intro kQ;exact Oa hh (Mm b _ Z' Z' Z') rfl kQ):Q:=h p
def iT{P Q:Prop}(p:P)(h:P->Q:=by intro kQ;exact Ca 7 [[(2,none)],[(0,none)],[(26,some 1)],[(27,some 2)],[(1,none)],[(29,some 4)],[(30,some 5)]] [(6,31),(5,30),(4,29),(3,28),(2,27),(1,26),(0,25)] hh mixed T' kQ):Q:=h p
def fV{P Q:Prop}(p:P)(h:P->Q:=by intro kQ;exact Da (Na (aa v31 (aa v30 (aa v29 (aa v28 (aa v27 (aa v26 (aa v25 Ea)))))))) kQ):Q:=h p
def SQ{P Q:Prop}(p:P)(h:P->Q:=by intro kQ;exact wb (vs:=[_,_,_,_]) ya.out rfl ((hr.ext hh.below).recAt TR.len hxx) rfl U' kQ):Q:=h p
def rF{P Q:Prop}(p:P)(h:P->Q:=by intro kQ;exact vc hh (cs:=[_,_,_,_]) lb.out ya.out (Rb (Ld rfl) oe) rfl rfl U' U' U' rfl U' kQ):Q:=h p
def KT{P Q:Prop}(p:P)(h:P->Q:=by intro kQ;exact wb (vs:=[_,_,_,_]) ya.out rfl ((hr2.ext hh.below).recAt TR.len hyy) rfl U' kQ):Q:=h p
def uK{P Q:Prop}(p:P)(h:P->Q:=by intro kQ;exact qi (hc _ hh.below) ja.out rfl rfl U' kQ):Q:=h p
def eH{P Q:Prop}(p:P)(h:P->Q:=by intro kQ;exact Ry hh lb.out ya.out U' kQ):Q:=h p
def aR{P Q:Prop}(p:P)(h:P->Q:=by intro kQ;exact Pn (h:=i) lb.out ya.size rfl rfl Z' Z' U' kQ):Q:=h p
def uu{P Q:Prop}(p:P)(h:P->Q:=by intro kQ;exact bV (qd rfl (pd (vs:=[_,_]) ya.out (hh.pb (i:=0) (n:=2) rfl rfl) rfl) (gh (ej rfl) Be)) kQ):Q:=h p
def BF{P Q:Prop}(p:P)(h:P->Q:=by intro kQ;exact bV (qd rfl (pd (vs:=[_,_]) ya.out (hh.pb (i:=1) (n:=2) rfl rfl) rfl) (gh (ej rfl) Be)) kQ):Q:=h p
def nQ{P Q:Prop}(p:P)(h:P->Q:=by intro kQ;exact da (N:=45) (l:=[.string a,.string b,.func (.func g) #[] #[]]) func329 rfl rfl (by simp) kQ):Q:=h p
def JS{P Q:Prop}(p:P)(h:P->Q:=by intro kQ;exact Ab hh (i:=1) (vs:=[_]) rfl rfl (Bc rfl) rfl ya.out rfl Z' rfl kQ):Q:=h p
def Qn{P Q:Prop}(p:P)(h:P->Q:=by intro kQ;exact wb (vs:=[_,_,_,_]) ya.out rfl ((hr.ext hh.below).recAt TR.len hx) rfl U' kQ):Q:=h p
def uH{P Q:Prop}(p:P)(h:P->Q:=by intro kQ;exact Ul (i:=9) rfl (λρ1 w1 hj hR=>(show ρ1 27=Value.bool _ from hR.2.1)) (λρ1 w1 hj hR=>qb ja.out (Ga (show ρ1 29=Value.agg (List.toArray _) from hR.1) Fb)) (λw1 hj=>hsg _) kQ):Q:=h p
def aN{P Q:Prop}(p:P)(h:P->Q:=by intro kQ;exact Ul (i:=15) rfl (λρ1 w1 hj hR=>(show ρ1 33=Value.bool _ from hR.2.1)) (λρ1 w1 hj hR=>qb ja.out (Ga (show ρ1 35=Value.agg (List.toArray _) from hR.1) Fb)) (λw1 hj=>hfo _ (hT.hp hj.hp)) kQ):Q:=h p
def kV{P Q:Prop}(p:P)(h:P->Q:=by intro kQ;exact kD (i:=18) rfl (λρ1 w1 hj hR=>(show ρ1 33=Value.bool _ from hR.2.2.1)) (λρ1 w1 hj hR=>QC (show ρ1 36=Value.agg (List.toArray _) from hR.1) (show ρ1 38=Value.agg (List.toArray _) from hR.2.1) (by first|assumption|rfl)) kQ):Q:=h p
def aM{P Q:Prop}(p:P)(h:P->Q:=by intro kQ;exact Da (Na (aa v53 (aa v52 (aa v51 (aa v50 (aa v49 (aa v48 (aa v47 (aa v46 (aa v45 (aa v44 (aa v43 (aa v42 (aa v41 (aa v40 (aa v39 (aa v38 (aa v37 (aa v36 (aa v35 (aa v34 (aa v33 (aa v32 (aa v31 (aa v30 (aa v29 (aa v28 (aa v27 (aa v26 (aa v25 (aa v24 (aa v23 (aa v22 (aa v21 Ea)))))))))))))))))))))))))))))))))) kQ):Q:=h p
def wF{P Q:Prop}(p:P)(h:P->Q:=by intro kQ;exact ub ya.out rfl (ic hh.below hp) U' kQ):Q:=h p
def cQ{P Q:Prop}(p:P)(h:P->Q:=by intro kQ;exact da (N:=25) (l:=[.int .i64 v,.slice A n c]) func129 rfl rfl (by simp) kQ):Q:=h p
def Pu{P Q:Prop}(p:P)(h:P->Q:=by intro kQ;exact NH rfl (Ga (TH rfl) Fb) U' kQ):Q:=h p
def V0{P Q:Prop}(p:P)(h:P->Q:=by intro kQ;exact Ca 6 [[(2,none)],[(4,some 0)],[(1,none)],[(6,some 2)],[(7,some 3)],[(8,some 4)]] [(5,9),(4,8),(3,7),(2,6),(1,5),(0,4)] hh mixed T' kQ):Q:=h p
def oF{P Q:Prop}(p:P)(h:P->Q:=by intro kQ;exact Ro (λ_ hj=>(hj.hp.below.cell (vv hp)).trans hp) kQ):Q:=h p
def uE{P Q:Prop}(p:P)(h:P->Q:=by intro kQ;exact wb (vs:=[_,_]) ya.out rfl ((hr.ext hh.below).recAt PX.len hx) rfl U' kQ):Q:=h p
def vx{P Q:Prop}(p:P)(h:P->Q:=by intro kQ;exact Oa hh (hc _ (hT.hp hh) hh.below) rfl kQ):Q:=h p
def hQ{P Q:Prop}(p:P)(h:P->Q:=by intro kQ;exact da (N:=22) (l:=[.agg s.cells.toArray,.agg #[.bool a.neg,.string a.Qa,.int .i64 a.e]]) func78 rfl rfl (by simp) kQ):Q:=h p
def YM{P Q:Prop}(p:P)(h:P->Q:=by intro kQ;exact Oa hh (ew s _ (hT.hp hh) ⟨hs.1.ok,hs.2.ok⟩) rfl kQ):Q:=h p
def Iq{P Q:Prop}(p:P)(h:P->Q:=by intro kQ;exact ub ya.out rfl ((hr.ext hh.below).aw hgi) U' kQ):Q:=h p
def Yz{P Q:Prop}(p:P)(h:P->Q:=by intro kQ;exact da (N:=29) (l:=[.agg #[.slice A n c,.slice B m c2]]) func96 rfl rfl (by simp) kQ):Q:=h p
def zK{P Q:Prop}(p:P)(h:P->Q:=by intro kQ;exact Oa hh (Re A n c ds _ (hS.ext hh.below) hn) rfl kQ):Q:=h p
def SV{P Q:Prop}(p:P)(h:P->Q:=by intro kQ;exact Ca 6 [[(1,none)],[(19,some 0)],[(20,some 1)],[(1,none)],[(22,some 3)],[(23,some 4)]] [(5,24),(4,23),(3,22),(2,21),(1,20),(0,19)] hh mixed T' kQ):Q:=h p
def pT{P Q:Prop}(p:P)(h:P->Q:=by intro kQ;exact Da (Na (aa v24 (aa v23 (aa v22 (aa v21 (aa v20 (aa v19 Ea))))))) kQ):Q:=h p
def Nm{P Q:Prop}(p:P)(h:P->Q:=by intro kQ;exact vc hh (cs:=[_,_,_]) lb.out ya.out (Rb (Ld rfl) oe) rfl rfl U' U' U' rfl U' kQ):Q:=h p
def tN{P Q:Prop}(p:P)(h:P->Q:=by intro kQ;exact Gb hh (i:=5) rfl rfl rfl (hh.ra (i:=0) rfl) lb.out ya.out rfl U' (by first|rfl|exact Xb _|exact Nb _|exact Pa _|exact Ta NR.one _) Z' Z' U' kQ):Q:=h p
def AK{P Q:Prop}(p:P)(h:P->Q:=by intro kQ;exact zd (k:=(n-1-k)) lb.out ya.size rfl rfl Z' Z' U' kQ):Q:=h p
def NF{P Q:Prop}(p:P)(h:P->Q:=by intro kQ;exact ub ya.out rfl ((s1.ext hh.below).aw (by assumption)) U' kQ):Q:=h p
def QS{P Q:Prop}(p:P)(h:P->Q:=by intro kQ;exact Ab hh (i:=3) (vs:=[_,_,_]) rfl rfl (Ld rfl) rfl ya.out rfl Z' rfl kQ):Q:=h p
def dQ{P Q:Prop}(p:P)(h:P->Q:=by intro kQ;exact jP (qd rfl (pd (vs:=[_,_]) ya.out (hh.pb (i:=2) (n:=2) rfl rfl) rfl) Be) kQ):Q:=h p
def TZ{P Q:Prop}(p:P)(h:P->Q:=by intro kQ;exact Ca 8 [[(2,none)],[(4,some 0)],[(5,some 1)],[(1,none)],[(7,some 3)],[(8,some 4)],[(9,some 5)],[(10,some 6)]] [(7,11),(6,10),(5,9),(4,8),(3,7),(2,6),(1,5),(0,4)] hh mixed T' kQ):Q:=h p
def Wv{P Q:Prop}(p:P)(h:P->Q:=by intro kQ;exact wb (vs:=[_,_]) ya.out rfl ((hr.ext hh.below).recAt FX.len hx) rfl U' kQ):Q:=h p
def rV{P Q:Prop}(p:P)(h:P->Q:=by intro kQ;exact zd (k:=m) lb.out ya.size rfl rfl Z' Z' U' kQ):Q:=h p
def zU{P Q:Prop}(p:P)(h:P->Q:=by intro kQ;exact da (N:=66) (l:=[.agg #[.slice f.A f.n f.a,.slice f.B f.m f.b],.slice E q cE]) func226 rfl rfl (by simp) kQ):Q:=h p
def bh{P Q:Prop}(p:P)(h:P->Q:=by intro kQ;exact Oa hh (hck _ (hT.hp hh) hh.below) rfl kQ):Q:=h p
def Lk{P Q:Prop}(p:P)(h:P->Q:=by intro kQ;exact bV (qd rfl (pd (vs:=[_,_]) ya.out (hh.pb (i:=2) (n:=2) rfl rfl) rfl) (gh (ej rfl) Be)) kQ):Q:=h p
def QA{P Q:Prop}(p:P)(h:P->Q:=by intro kQ;exact Oa hh (hlk _ (hT.hp hh) hh.below) rfl kQ):Q:=h p
def BL{P Q:Prop}(p:P)(h:P->Q:=by intro kQ;exact zd (k:=j) lb.out ya.size om rfl Z' Z' U' kQ):Q:=h p
def Sj{P Q:Prop}(p:P)(h:P->Q:=by intro kQ;exact vc hh (cs:=[_,_]) lb.out ya.out (Rb (Ld rfl) oe) rfl rfl U' U' U' rfl U' kQ):Q:=h p
def tQ{P Q:Prop}(p:P)(h:P->Q:=by intro kQ;exact Ia rfl rfl U' (Yf lb.out ya.size rfl rfl (l:=1) rfl Z' Z') kQ):Q:=h p
def rS{P Q:Prop}(p:P)(h:P->Q:=by intro kQ;exact zd (k:=i) lb.out ya.size om rfl Z' Z' U' kQ):Q:=h p
def aaA{P Q:Prop}(p:P)(h:P->Q:=by intro kQ;exact da (N:=38) (l:=[.agg #[.slice fx.A fx.n fx.a,.slice fx.B fx.m fx.b],.agg #[.bool c.neg,.string c.Qa,.int .i64 c.e]]) func223 rfl rfl (by simp) kQ):Q:=h p
def Zt{P Q:Prop}(p:P)(h:P->Q:=by intro kQ;exact wb (vs:=[_,_,_,_,_,_]) ya.out rfl ((hr.ext hh.below).recAt SR.len hs) rfl U' kQ):Q:=h p
def iL{P Q:Prop}(p:P)(h:P->Q:=by intro kQ;exact vc hh (cs:=[_,_,_,_,_,_]) lb.out ya.out (Rb (Ld rfl) oe) rfl rfl U' U' U' rfl U' kQ):Q:=h p
def Gx{P Q:Prop}(p:P)(h:P->Q:=by intro kQ;exact Gb hh (i:=2) rfl rfl rfl (hh.ra (i:=0) rfl) lb.out ya.out rfl U' (by first|rfl|exact Xb _|exact Nb _|exact Pa _|exact Ta NR.one _) Z' Z' U' kQ):Q:=h p
def yZ{P Q:Prop}(p:P)(h:P->Q:=by intro kQ;exact Ca 5 [[(6,none)],[(1,none)],[(5,none)],[(20,some 1),(21,some 2)],[(22,some 3)]] [(4,23),(3,22),(2,21),(1,20),(0,19)] hh mixed T' kQ):Q:=h p
def GS{P Q:Prop}(p:P)(h:P->Q:=by intro kQ;exact Ca 9 [[(3,none)],[(13,some 0)],[(14,some 1)],[(5,none),(15,some 2)],[(16,some 3),(15,some 2)],[(0,none),(15,some 2)],[(3,none),(15,some 2)],[(18,some 5),(19,some 6),(15,some 2)],[(20,some 7),(15,some 2)]] [(8,21),(7,20),(6,19),(5,18),(4,17),(3,16),(2,15),(1,14),(0,13)] hh mixed T' kQ):Q:=h p
def FQ{P Q:Prop}(p:P)(h:P->Q:=by intro kQ;exact Da (Na (aa v21 (aa v20 (aa v19 (aa v18 (aa v17 (aa v16 (aa v15 (aa v14 (aa v13 Ea)))))))))) kQ):Q:=h p
def OZ{P Q:Prop}(p:P)(h:P->Q:=by intro kQ;exact Ul (i:=4) rfl (λρ1 w1 hj hR=>(show ρ1 15=Value.bool _ from hR.2.1)) (λρ1 w1 hj hR=>qb ja.out (Ga (show ρ1 16=Value.agg (List.toArray _) from hR.1) Fb)) (λw1 hj=>hc1 _ (hT.hp hj.hp)) kQ):Q:=h p
def GR{P Q:Prop}(p:P)(h:P->Q:=by intro kQ;exact da (N:=58) (l:=[.agg #[.int .i64 p.v,.slice p.A p.n p.c],.slice L n c,.slice M m mc]) func162 rfl rfl (by simp) kQ):Q:=h p
def EE{P Q:Prop}(p:P)(h:P->Q:=by intro kQ;exact ub ya.out rfl ((hr.ext hh.below).aw hy2) U' kQ):Q:=h p
def tF{P Q:Prop}(p:P)(h:P->Q:=by intro kQ;exact Gb hh (i:=3) rfl rfl rfl (hh.ra (i:=0) rfl) lb.out ya.out rfl U' (by first|rfl|exact Xb _|exact Nb _|exact Pa _|exact Ta NR.one _) Z' Z' U' kQ):Q:=h p
def vM{P Q:Prop}(p:P)(h:P->Q:=by intro kQ;exact bV (qd rfl (pd (vs:=[_,_]) ya.out (hh.pb (i:=3) (n:=2) rfl rfl) rfl) (gh (ej rfl) Be)) kQ):Q:=h p
def xT{P Q:Prop}(p:P)(h:P->Q:=by intro kQ;exact Va (i:=10) (Gc _ 24 _) Gc.ext (λρ1 w1 hj hR=>Ui ya.out hj.bl (λv w2 h hb=>⟨hb,h⟩)) kQ):Q:=h p
def JR{P Q:Prop}(p:P)(h:P->Q:=by intro kQ;exact Ca 12 [[(5,none)],[(0,none)],[(8,some 1)],[(7,some 0),(9,some 2)],[(10,some 3)],[(0,none),(11,some 4)],[(5,none),(11,some 4)],[(12,some 5),(13,some 6),(11,some 4)],[(14,some 7),(11,some 4)],[(15,some 8),(11,some 4)],[(3,none),(11,some 4)],[(17,some 10),(11,some 4)]] [(11,18),(10,17),(9,16),(8,15),(7,14),(6,13),(5,12),(4,11),(3,10),(2,9),(1,8),(0,7)] hh mixed T' kQ):Q:=h p
def DM{P Q:Prop}(p:P)(h:P->Q:=by intro kQ;exact dG (Ro (λ_ hj=>((hr.ext hj.hp.below).recAt TR.len ht).cell (i:=0) rfl) kQ)):Q:=h p
def GV{P Q:Prop}(p:P)(h:P->Q:=by intro kQ;exact Da (Na (aa v18 (aa v17 (aa v16 (aa v15 (aa v14 (aa v13 (aa v12 (aa v11 (aa v10 (aa v9 (aa v8 (aa v7 Ea))))))))))))) kQ):Q:=h p
def qQ{P Q:Prop}(p:P)(h:P->Q:=by intro kQ;exact Ca 12 [[(5,none)],[(0,none)],[(29,some 1)],[(28,some 0),(30,some 2)],[(31,some 3)],[(0,none),(32,some 4)],[(5,none),(32,some 4)],[(33,some 5),(34,some 6),(32,some 4)],[(35,some 7),(32,some 4)],[(36,some 8),(32,some 4)],[(3,none),(32,some 4)],[(38,some 10),(32,some 4)]] [(11,39),(10,38),(9,37),(8,36),(7,35),(6,34),(5,33),(4,32),(3,31),(2,30),(1,29),(0,28)] hh mixed T' kQ):Q:=h p
def xR{P Q:Prop}(p:P)(h:P->Q:=by intro kQ;exact Da (Na (aa v39 (aa v38 (aa v37 (aa v36 (aa v35 (aa v34 (aa v33 (aa v32 (aa v31 (aa v30 (aa v29 (aa v28 Ea))))))))))))) kQ):Q:=h p
def aaW{P Q:Prop}(p:P)(h:P->Q:=by intro kQ;exact Ca 8 [[(6,none)],[(3,none)],[(63,some 1)],[(3,none)],[(65,some 3)],[(66,some 4)],[(64,some 2),(67,some 5)],[(68,some 6)]] [(7,69),(6,68),(5,67),(4,66),(3,65),(2,64),(1,63),(0,62)] hh mixed T' kQ):Q:=h p
def aaH{P Q:Prop}(p:P)(h:P->Q:=by intro kQ;exact Da (Na (aa e69 (aa v68 (aa v67 (aa v66 (aa v65 (aa v64 (aa v63 (aa v62 Ea))))))))) kQ):Q:=h p
def j0{P Q:Prop}(p:P)(h:P->Q:=by intro kQ;exact Gb hh (i:=0) rfl rfl rfl (f69) lb.out ya.out rfl U' (by first|rfl|exact Xb _|exact Nb _|exact Pa _|exact Ta NR.one _) Z' Z' U' kQ):Q:=h p
def H0{P Q:Prop}(p:P)(h:P->Q:=by intro kQ;exact wb (vs:=[_,_,_]) ya.out rfl ((hh.Gd (f:=TR.cells) (x:=t) (l:=G) (i:=1) rfl TR.len U' ht).drop 1) rfl U' kQ):Q:=h p
def xM{P Q:Prop}(p:P)(h:P->Q:=by intro kQ;exact ub ya.out rfl (((hr.ext hh.below).recAt TR.len hx).cell (i:=0) rfl) U' kQ):Q:=h p
def aau{P Q:Prop}(p:P)(h:P->Q:=by intro kQ;exact da (N:=42) (l:=[.agg #[.int .i64 p.v,.slice p.A p.n p.c],.agg #[.bool c.neg,.string c.Qa,.int .i64 c.e]]) func234 rfl rfl (by simp) kQ):Q:=h p
def CK{P Q:Prop}(p:P)(h:P->Q:=by intro kQ;exact ub ya.out rfl (hh.eg (i:=0) rfl (by first|assumption|(simp only[I_];assumption))) U' kQ):Q:=h p
def dL{P Q:Prop}(p:P)(h:P->Q:=by intro kQ;exact ub ya.out rfl ((hh.below.cell (vv hp)).trans hp) U' kQ):Q:=h p
def aav{P Q:Prop}(p:P)(h:P->Q:=by intro kQ;exact Ia rfl rfl U' (ab4 lb.out ya.size rfl rfl rfl rfl (l:=a) (h:=a+1) (q:=n) rfl Z' rfl Z' Z' Z' Z') kQ):Q:=h p
def E0{P Q:Prop}(p:P)(h:P->Q:=by intro kQ;exact Ca 6 [[(0,none)],[(1,none)],[(20,some 0),(21,some 1)],[(0,none)],[(2,none)],[(23,some 3),(24,some 4)]] [(5,25),(4,24),(3,23),(2,22),(1,21),(0,20)] hh mixed T' kQ):Q:=h p
def sZ{P Q:Prop}(p:P)(h:P->Q:=by intro kQ;exact Wa (i:=2) (λρ1 w1 hj hR=>Uw (h:=a) lb.out ya.size (show ρ1 20=Value.slice _ _ _ from hR.1) (show ρ1 21=Value.int _ _ from hR.2.1) Z' Z') kQ):Q:=h p
def EZ{P Q:Prop}(p:P)(h:P->Q:=by intro kQ;exact Wa (i:=5) (λρ1 w1 hj hR=>Yf (l:=(a+1)) lb.out ya.size (show ρ1 23=Value.slice _ _ _ from hR.1) (show ρ1 24=Value.int _ _ from hR.2.1) Z' Z' Z') kQ):Q:=h p
def XK{P Q:Prop}(p:P)(h:P->Q:=by intro kQ;exact Da (Na (aa v25 (aa v24 (aa v23 (aa v22 (aa v21 (aa v20 Ea))))))) kQ):Q:=h p
def K0{P Q:Prop}(p:P)(h:P->Q:=by intro kQ;exact Ca 6 [[(8,none)],[(3,none)],[(21,some 1)],[(20,some 0),(22,some 2)],[(3,none)],[(24,some 4)]] [(5,25),(4,24),(3,23),(2,22),(1,21),(0,20)] hh mixed T' kQ):Q:=h p
def aab{P Q:Prop}(p:P)(h:P->Q:=by intro kQ;exact Wa (i:=3) (λρ1 w1 hj hR=>Ps (show ρ1 20=Value.int _ _ from hR.1) (show ρ1 22=Value.int _ _ from hR.2.1) Z' Z' Z') kQ):Q:=h p
def QG{P Q:Prop}(p:P)(h:P->Q:=by intro kQ;exact vc hh (cs:=[_]) lb.out ya.out (Rb (rp rfl) oe) rfl rfl U' U' U' rfl U' kQ):Q:=h p
def Um{P Q:Prop}(p:P)(h:P->Q:=by intro kQ;exact Nd (k:=k) lb.out ya.size rfl rfl Z' Z' U' kQ):Q:=h p
def GM{P O Q:Prop}(p:P)(o:O)(h:P->O->Q:=by intro kQ lQ;exact Gt (i:=3) (i2:=17) T' rfl rfl kQ lQ):Q:=h p o
def aA{P Q:Prop}(p:P)(h:P->Q:=by intro kQ;exact ze (i:=17) T' rfl kQ):Q:=h p
def pK{P Q:Prop}(p:P)(h:P->Q:=by intro kQ;exact Ro (λ_ hj=>hE.ld (hj.hp.sub (.cons _ (.cons _ (A_ _))))) kQ):Q:=h p
def oQ{P Q:Prop}(p:P)(h:P->Q:=by intro kQ;exact Gb hh (i:=4) rfl rfl rfl (hh.ra (i:=0) rfl) lb.out ya.out rfl U' (by first|rfl|exact Xb _|exact Nb _|exact Pa _|exact Ta NR.one _) Z' Z' U' kQ):Q:=h p
def kU{P Q:Prop}(p:P)(h:P->Q:=by intro kQ;exact da (N:=137) (l:=[.slice L n c,.slice B m cb,.agg #[.bool tol.neg,.string tol.Qa,.int .i64 tol.e],.int .i64 p,.int .i64 bu]) func21 rfl rfl (by simp) kQ):Q:=h p
def VT{P Q:Prop}(p:P)(h:P->Q:=by intro kQ;exact vc hh (cs:=[_,_,_,_,_]) lb.out ya.out (Rb (Ld rfl) oe) rfl rfl U' U' U' rfl U' kQ):Q:=h p
def eL{P Q:Prop}(p:P)(h:P->Q:=by intro kQ;exact da (N:=18) (l:=[.agg #[.bool a.neg,.string a.Qa,.int .i64 a.e]]) func55 rfl rfl (by simp) kQ):Q:=h p
def IZ{P Q:Prop}(p:P)(h:P->Q:=by intro kQ;exact da (N:=49) (l:=[.slice B m d,.agg #[.bool eps.neg,.string eps.Qa,.int .i64 eps.e],.int .i64 g,.int .i64 bu]) func15 rfl rfl (by simp) kQ):Q:=h p
def rR{P Q:Prop}(p:P)(h:P->Q:=by intro kQ;exact ub ya.out rfl (((hr.ext hh.below).recAt PX.len hpi).cell (i:=1) (v:=.slice A pn pc) rfl) U' kQ):Q:=h p
def NU{P Q:Prop}(p:P)(h:P->Q:=by intro kQ;exact ub ya.out rfl (((hr.ext hh.below).recAt PX.len hpi).cell (i:=1) (v:=.slice (some at2) pn pc) rfl) U' kQ):Q:=h p
def PA{P Q:Prop}(p:P)(h:P->Q:=by intro kQ;exact Oa hh (Hg 2 _ U' U') rfl kQ):Q:=h p
def qT{P Q:Prop}(p:P)(h:P->Q:=by intro kQ;exact qa (Il (0) 0 1 K3 _ U' U' U' (by decide+kernel)) ja.out rfl U' kQ):Q:=h p
def oS{P Q:Prop}(p:P)(h:P->Q:=by intro kQ;exact qa (Wj ((-1)) 1 _ U' U') ja.out rfl U' kQ):Q:=h p
def O0{P Q:Prop}(p:P)(h:P->Q:=by intro kQ;exact jl [2] [0,1,0,3,15,31] 3 [[(4,none)],[(48,some 0)],[(5,none)]] [(2,50),(1,49),(0,48)] [([],3,[(1,49),(0,48)]),([2],2,[(2,50),(1,49),(0,48)])] hh mixed T' T' U' kQ):Q:=h p
def aaO{P Q:Prop}(p:P)(h:P->Q:=by intro kQ;exact Ca 14 [[(11,none)],[(9,none)],[(48,some 1)],[(47,some 0),(49,some 2)],[(9,none)],[(51,some 4)],[(50,some 3),(52,some 5)],[(3,none)],[(54,some 7)],[(1,none)],[(55,some 8),(56,some 9)],[(57,some 10)],[(2,none)],[(58,some 11),(59,some 12)]] [(13,60),(12,59),(11,58),(10,57),(9,56),(8,55),(7,54),(6,53),(5,52),(4,51),(3,50),(2,49),(1,48),(0,47)] hh mixed T' kQ):Q:=h p
def RZ{P Q:Prop}(p:P)(h:P->Q:=by intro kQ;exact Wa (i:=3) (λρ1 w1 hj hR=>Ps (show ρ1 47=Value.int _ _ from hR.1) (show ρ1 49=Value.int _ _ from hR.2.1) Z' Z' Z') kQ):Q:=h p
def aaK{P Q:Prop}(p:P)(h:P->Q:=by intro kQ;exact Wa (i:=6) (λρ1 w1 hj hR=>Ln (show ρ1 50=Value.int _ _ from hR.1) (show ρ1 52=Value.int _ _ from hR.2.1) Z' Z') kQ):Q:=h p
def aa0{P Q:Prop}(p:P)(h:P->Q:=by intro kQ;exact Da (Na (aa v60 (aa v59 (aa v58 (aa v57 (aa v56 (aa v55 (aa v54 (aa v53 (aa v52 (aa v51 (aa v50 (aa v49 (aa v48 (aa v47 Ea))))))))))))))) kQ):Q:=h p
def aao{p:Prop}(h:p:=by
  refine Jb ?_;intro ws hh;refine Lk ?_;exact XX):p:=h
def W0{p:Prop}(h:p:=by
  refine Ab hh (i:=3) (vs:=[_]) rfl rfl (rp rfl) rfl ya.out rfl Z' rfl ?_;intro ws hh;simp only[U_,F_] at hh;exact zW2):p:=h
def LZ{p:Prop}(h:p:=by
  refine Yc ?_;refine ze (i:=2) T' rfl ?_;refine rf hh 3 [_,_] ?_;intro ws hh;replace hh:Hp _ (_::_::_::.blk _ _ [_,_] _::_) _:=hh;exact aa1):p:=h
def aaN{p:Prop}(h:p:=by
  refine fa ?_;refine Up (b:=1) rfl rfl Z' U' ?_;refine fa ?_;refine Ye rfl rfl U' ?_;refine fa ?_;rw[hqd,hdn];refine⟨⟨rfl,hh⟩, ?_⟩;exact Rc):p:=h
def M0{p:Prop}(h:p:=by
  refine fa ?_;refine Up (b:=1) rfl rfl Z' U' ?_;refine fa ?_;refine Ye rfl rfl U' ?_;refine fa ?_;rw[hqd,hrd];refine⟨⟨q-1,rh+y1,rfl,rfl,hI2,hr3,hh⟩,by show((q-1:Nat):Int).toNat<(q:Int).toNat;omega, ?_⟩;exact Rc):p:=h
def F0{p:Prop}(h:p:=by
  refine Yc ?_;refine ze (i:=3) T' rfl ?_;refine zl hh 3 [_,_] ?_;exact adJ):p:=h
def S0{p:Prop}(h:p:=by
  refine⟨⟨i+1,_,Z',rfl,hS3.symm,hh⟩,by show n-(i+1)<n-i;omega, ?_⟩;exact Rc):p:=h
def aaG{p:Prop}(h:p:=by
  exact⟨_,_,by rw[e1],by rw[e1,e2];exact hh.sub (I' _ (R9 _))⟩):p:=h
def sS{p:Prop}(h:p:=by
  dsimp only[Bb];clear hJ;refine fa ?_;exact⟨rfl,hh.below⟩):p:=h
def uZ{p:Prop}(h:p:=by
  refine mr ?_;exact⟨rfl,hh.below⟩):p:=h
def aak{p:Prop}(h:p:=by
  refine da (N:=38) (l:=[.int .i64 v,.slice A n c]) func93 rfl rfl (by simp) ?_;refine Sb ?_;intro b4 w4 hh ws hh;exact YW):p:=h
def aaI{p:Prop}(h:p:=by
  refine Gj lb.out rfl rfl U' ?_;refine fa ?_;refine Oa hh (hng _) rfl ?_;intro w47 hh;refine Jb ?_;intro ws hh;exact zW3):p:=h
def BV{p:Prop}(h:p:=by
  exact⟨PX.nil,mg.err U',rfl,(hh.sub (R9 _)).OT⟩):p:=h
def aaZ{p:Prop}(h:p:=by
  refine⟨⟨i,_,_,Z',rfl,by rw[d1];rfl,by rw[d1];exact hh⟩,by show((i:Int)-1+1).toNat<((i:Int)+1).toNat;omega, ?_⟩;exact Rc):p:=h
def aaj{p:Prop}(h:p:=by
  refine Qr ?_;refine dS (dS (dS (dS (dS ?_))));refine Vn (i:=18) rfl (λρ1 w1 hj hR=>(show ρ1 33=Value.bool _ from hR.2.2.1)) U' ?_;refine dpT ?_;exact zW8):p:=h
def aas{p:Prop}(h:p:=by
  refine Jb ?_;intro ws hh;refine bV (qd rfl (pd (vs:=[_,_,_]) ya.out (hh.pb (i:=0) (n:=3) rfl rfl) rfl) (gh (ej rfl) Be)) ?_;exact⟨rfl,hh.below⟩):p:=h
def rZ{p:Prop}(h:p:=by
  refine Yc ?_;refine ze (i:=2) T' rfl ?_;refine rf hh 4 [_,_] ?_;intro ws hh;replace hh:Hp _ (_::_::_::_::.blk _ _ [_,_] _::_) _:=hh;exact ac1):p:=h
def cS{p:Prop}(h:p:=by
  refine⟨_,rfl, ?_⟩;replace hh:=hh.join h3;simp only[C',E'] at hh;exact bU):p:=h
def aaJ{p:Prop}(h:p:=by
  refine Jb ?_;intro ws hh;replace hh:=hh.sub (s_ _ _);refine⟨⟨i+1,_,_,Z',rfl,hS3.symm,hpl,by unfold IR.v at hba |-;omega,hh⟩,by show n-(i+1)<n-i;omega, ?_⟩;exact Rc):p:=h
def aaU{p:Prop}(h:p:=by
  simp only[M8,l9,Q_,z7];refine⟨h2,F6.2 λe he=> ?_⟩
  cases hb:Region.binds .any e with
  |false=>simp
  |true=>simpa[hb] using h3 e he hb):p:=h
def tV{p:Prop}(h:p:=by
  intro A7 c7 w7 hh;simp only[U_] at hh;rw[C_] at hh |-;rw[E'] at hh;exact SB):p:=h
def T0{p:Prop}(h:p:=by
  replace hh:=hh.sub (p' _ (I' _ (I' _ H_)));refine⟨⟨i+1,Z',rfl,by rw[hst];exact hh⟩,by show n-1-(i+1)<n-1-i;omega, ?_⟩;exact Rc):p:=h
def aaM{p:Prop}(h:p:=by
  have hik:i=k:=by
   obtain h|h:=Y9 i k
   .exact absurd ⟨i,h,h2,h3⟩ hex
   omega
  subst hik;refine⟨i,h2,h3,λj hj=> ?_⟩
  cases hc2:L.getD j false with
  |true=>rfl
  |false=>exact absurd ⟨j,hj,Z',hc2⟩ hex):p:=h
def jZ{p:Prop}(h:p:=by
  have h1:L.toList.countP (λb=>b)=L.toList.length:=(by have:=hI.ls;simp only[Array.length_toList];omega);have h2:=List.countP_eq_length.1 h1;have h3:i<L.size:=by rw[hI.ls,hnn];exact hi
  have:=h2 L[i] (by simp);simpa[h3] using this):p:=h
def QM{p:Prop}(h:p:=by
  refine⟨⟨i+1,Z',rfl,hh⟩,by show(n-m/64)-(i+1)<(n-m/64)-i;omega, ?_⟩;exact Rc):p:=h
def CZ{p:Prop}(h:p:=by
  refine qa (hpu _ (hT.hp hh) hh.below) ja.out rfl U' ?_;rintro e_ w51 ⟨g,og,rfl,h3⟩;refine⟨_,rfl, ?_⟩;replace hh:=hh.join h3;simp only[C',E'] at hh;exact aao):p:=h
def P0{p:Prop}(h:p:=by
  obtain⟨c,hc⟩:=ea (l:=s.data.toList) (k:=k) (by rw[<-Tc];exact hlt);have hb:=c.toNat_lt;by_cases h8:c.toNat<128
  .refine fa ?_;refine⟨⟨k+1,Z',rfl,by rw[oa hc,nO,hm];simpa using h8,rfl⟩,by show s.size-(k+1)<s.size-k;omega, ?_⟩;exact Rc
  refine fa ?_;rw[yV hc h8];exact⟨rfl,Below.refl _ _⟩):p:=h
def LL{p:Prop}(h:p:=by
  refine da (N:=19) (l:=[.agg #[.int .i64 p.v,.slice p.A p.n p.c],.int .i64 i]) func266 rfl rfl (by simp) ?_;exact adx):p:=h
def aaa{p:Prop}(h:p:=by
  refine Yc ?_;refine Sg 4 U' T' U' T' T' ?_;refine Jb ?_;intro ws hh;refine qc3 (qd rfl (pd (vs:=[_,_]) ya.out (hh.pb (i:=2) (n:=2) rfl rfl) rfl) (qd rfl (pd (vs:=[_,_]) ya.out (hh.pb (i:=1) (n:=2) rfl rfl) rfl) (gh (Ck rfl) Be))) ?_;exact⟨_,_,rfl,hh.below⟩):p:=h
def YZ{p:Prop}(h:p:=by
  refine Yc ?_;refine Sg 4 U' T' U' T' T' ?_;refine Jb ?_;intro ws hh;refine qc3 (qd rfl (pd (vs:=[_,_]) ya.out (hh.pb (i:=1) (n:=2) rfl rfl) rfl) (qd rfl (pd (vs:=[_,_]) ya.out (hh.pb (i:=0) (n:=2) rfl rfl) rfl) (gh (Ck rfl) Be))) ?_;exact⟨_,_,rfl,hh.below⟩):p:=h
def aaz{p:Prop}(h:p:=by
  have hq:q<4294967296:=Z';have hdn:=OA b1 b0 hI Z';rw[<-hyy] at hdn;have hqy:=hqy hq;refine fa ?_;refine Df rfl rfl U' ?_;refine fa ?_;refine Df (a:=4294967296) rfl rfl U' ?_;refine fa ?_;refine Ye rfl rfl U' ?_;refine fa ?_;refine⟨⟨J_ (λn:Nat=>Value.int IntKind.u64 n) hdn,hh⟩, ?_⟩;exact Rc):p:=h
def QR{p:Prop}(h:p:=by
  refine da (N:=34) (l:=[.int .i64 v,.int .i64 x]) func233 rfl rfl (by simp) ?_;refine Jb ?_;intro b4 w4 hh;refine Oa hh (hfw _) rfl ?_;intro w8 hh;refine Jb ?_;intro ws hh;exact YW):p:=h
def XZ{p:Prop}(h:p:=by
  refine fa ?_;refine wb (vs:=[_,_,_]) ya.out rfl ((hr.ext hh.below).recAt NR.len ha) rfl U' ?_;refine Sb ?_;intro b5 w5 hh ws hh;refine Oa hh (Pc a _) rfl ?_;intro w14 hh;generalize a.i.sign=g at*;refine fa ?_;refine⟨⟨i+1,g,Z',rfl,rfl,hs0,Z',Z',hh.sub (R9 _)⟩,by show n-(i+1)<n-i;omega, ?_⟩;exact Rc):p:=h
def aaD{p:Prop}(h:p:=by
  refine Sb ?_;intro b4 w4 hh ws hh;refine vx ?_;intro w13 hh;refine fa ?_;replace hh:=hh.sub (p' _ (I' _ H_));refine⟨⟨i+1,Z',rfl,by rw[oa hx,n7,hall,x7,T6,O_ Z'];rfl,hh⟩,by show n-(i+1)<n-i;omega, ?_⟩;exact Rc):p:=h
def R0{p:Prop}(h:p:=by
  refine cQ ?_;refine Sb ?_;intro b2 w2 hh b4 w4 hh;refine Oa hh (hfw _) rfl ?_;intro w7 hh;refine fa ?_;refine Pu ?_;refine fa ?_;refine Oa hh (han _ _ hh.below (hh.eg (i:=1) (o:=0) rfl rfl)) rfl ?_;intro w12 hh;refine Jb ?_;intro ws hh;exact YW):p:=h
def lM{p:Prop}(h:p:=by
  refine da (N:=20) (l:=[.agg #[.slice fx.A fx.n fx.a,.slice fx.B fx.m fx.b],.int .i64 ax]) func195 rfl rfl (by simp) ?_;exact adx):p:=h
def yx{p:Prop}(h:p:=by
  refine⟨⟨i+1,Z',rfl,hh⟩,by show n-(i+1)<n-i;omega, ?_⟩;exact Rc):p:=h
def GZ{p:Prop}(h:p:=by
  have hil:i<l.length:=Z';have hE:=hedge i hil;have ho:l.toArray[i]?=some l[i]:=by simp[hil]
  rw[ho] at hE;have hmem:i∈Region.ready .any l.toArray L:=(hready_spec i).2 ⟨hil,by
   have h3:i<L.size:=by rw[hI.ls,hnn];exact hil
   rw[y9] at hu |-;rw[o6 h3] at hu |-;simpa using hu,l[i],ho,λe he hb=>by
   have:=F6.1 hE e he;simp only[hb,E6,d_,K_] at this;exact hlow _ this⟩
  rw[hnil] at hmem
  cases hmem):p:=h
def aag{p:Prop}(h:p:=by
  refine Ye rfl rfl U' ?_;refine fa ?_;refine aU ?_;refine fa ?_;refine vR ?_;intro ws hh;simp only[U_] at hh;rw[hand,es,I_,jc (by rw[hll];omega),Ur,<-b1,hfk] at hh;refine fa ?_;refine Kl (s:=1) (m:=2) rfl rfl U' U' U' ?_;refine fa ?_;rw[es];refine⟨⟨i+1,Z',rfl,by rw[b2];rfl,hh⟩,by show K-(i+1)<K-i;omega, ?_⟩;exact Rc):p:=h
def aa3{p:Prop}(h:p:=by
  intro w24 hh;refine Oa hh (hs _ (hT.hp hh)) rfl ?_;intro w25 hh;refine Nm ?_;intro b26 w26 hh;refine Vr ?_;intro A27 c27 w27 hh;simp only[U_,F_] at hh;replace hh:=hh.sub (s_ _ _);refine fa ?_;refine⟨⟨i+1,c27,A27,Z',rfl,rfl, ?_⟩,by show n-(i+1)<n-i;omega, ?_⟩
  .rw[he,La];exact hh
  exact Rc):p:=h
def zZ{p:Prop}(h:p:=by
  refine Nm ?_;intro b43 w43 hh;refine Gx ?_;intro A44 c44 w44 hh;simp only[U_,F_] at hh;replace hh:=hh.sub (s_ _ _);refine fa ?_;replace hh:=hh.sub (p' _ (I' _ (I' _ (A_ _))));refine⟨⟨k+1,c44,A44,Z',rfl,rfl,by rw[hst,hco,La];exact hh⟩,by show n-(k+1)<n-k;omega, ?_⟩;exact Rc):p:=h
def aa1{p:Prop}(h:p:=by
  refine Yc ?_;refine Sg 3 U' T' U' T' T' ?_;refine rf hh 2 [_,_] ?_;intro ws hh;replace hh:Hp _ (_::_::.blk _ _ [_,_] _::_) _:=hh;refine aB (ua (Bn ?_));refine qc3 (qd rfl (pd (vs:=[_,_]) ya.out (hh.pb (i:=3) (n:=2) rfl rfl) rfl) (qd rfl (pd (vs:=[_,_]) ya.out (hh.pb (i:=2) (n:=2) rfl rfl) rfl) (gh (Ck rfl) Be))) ?_;exact⟨rfl,hh.below⟩):p:=h
def jL{p:Prop}(h:p:=by
  refine Ab hh (i:=3) (vs:=[_]) rfl rfl (rp rfl) rfl ya.out rfl Z' rfl ?_;intro ws hh;simp only[U_,F_] at hh;refine Yc ?_;refine ze (i:=3) T' rfl ?_;refine xm hh 0 ?_;refine Yc ?_;refine ze (i:=5) T' rfl ?_;refine lj ?_;exact zW2):p:=h
def aaT{p:Prop}(h:p:=by
  refine Ca 13 [[(2,none)],[(24,some 0)],[(2,none)],[(26,some 2)],[(3,none)],[(28,some 4)],[(27,some 3),(29,some 5)],[(25,some 1),(30,some 6)],[(3,none)],[(32,some 8)],[(31,some 7),(33,some 9)],[(3,none)],[(35,some 11)]] [(12,36),(11,35),(10,34),(9,33),(8,32),(7,31),(6,30),(5,29),(4,28),(3,27),(2,26),(1,25),(0,24)] hh mixed T' ?_;refine yd ?_;refine Vd 2 [_,_] ?_;refine yd ?_;refine xe 2 ?_;refine yd ?_;refine xe 1 ?_;refine Tu ?_;refine dC (λ_ hj=>hshl _) ?_;refine yd ?_;refine Vd 1 [_,_] ?_;refine dC (λ_ hj=>hpl _) ?_;refine yd ?_;refine xe 1 ?_;refine xa ?_;intro f W hJ hV;have hb_8:=hJ.bl;obtain⟨v36,v35,v34,v33,v32,v31,v30,v29,v28,v27,v26,v25,v24,_⟩:=hV;replace hh:=hJ.hp;refine Da (Na (aa v36 (aa v35 (aa v34 (aa v33 (aa v32 (aa v31 (aa v30 (aa v29 (aa v28 (aa v27 (aa v26 (aa v25 (aa v24 Ea)))))))))))))) ?_;dsimp only[Bb];clear hJ;refine Oa hh (hmk _) rfl ?_;intro w37 hh;exact lH):p:=h
def nZ{p:Prop}(h:p:=by
  refine Yc ?_;refine ze (i:=8) T' rfl ?_;refine qi (hsm _ (hT.hp hh)) ja.out rfl rfl U' ?_;rintro e_ w41 ⟨rfl,hb_⟩;refine⟨_,rfl, ?_⟩;replace hh:=hh.ext hb_;refine Yc ?_;refine ze (i:=9) T' rfl ?_;refine rF ?_;intro b42 w42 hh;refine Yc ?_;refine ze (i:=10) T' rfl ?_;refine Vr ?_;intro A43 c43 w43 hh;simp only[U_,F_] at hh;replace hh:=hh.sub (s_ _ _);refine Yc ?_;refine Sg 15 U' T' U' T' T' ?_;refine fa ?_;replace hh:=hh.sub (I' _ H_);refine⟨⟨_,n-1,c-1,X,_,m-1,c2-1,Y,O++[⟨x.m,nR (x.c.ma+y.c.ma)⟩],A43,c43,rfl,rfl, ?_,Z',Z',hSt,hSt2,hmg.both h1 h2 hk, ?_⟩,by show(n-1)+(m-1)<n+m;omega, ?_⟩
  .exact adZ
  .rw[Y_,La];exact hh
  exact Rc):p:=h
def jH{p:Prop}(h:p:=by
  exact W0):p:=h
def SZ{p:Prop}(h:p:=by
  obtain⟨hq1,hI2⟩:=QO b1 Z' Z' hI hb;have hqd:(q+18446744073709551616-1) % 18446744073709551616=q-1:=Z';have hrd:(rh+y1) % 18446744073709551616=rh+y1:=Z';by_cases hr2:4294967296<=rh+y1
  .have hdn:=BJ b1 b0 hI2 Z' hr2;rw[<-hyy] at hdn;by_cases hq:4294967296<=q
   .exact aaN
   have hqy:=hqy Z';refine fa ?_;refine Df rfl rfl U' ?_;refine fa ?_;refine Df (a:=4294967296) rfl rfl U' ?_;refine fa ?_;refine Ye rfl rfl U' ?_;exact aaN
  have hr3:rh+y1<4294967296:=Z';by_cases hq:4294967296<=q
  .exact M0
  have hqy:=hqy Z';refine fa ?_;refine Df rfl rfl U' ?_;refine fa ?_;refine Df (a:=4294967296) rfl rfl U' ?_;refine fa ?_;refine Ye rfl rfl U' ?_;exact M0):p:=h
def Dw{p:Prop}(h:p:=by
  refine uK ?_;rintro e_ w16 ⟨rfl,hb_⟩;refine⟨_,rfl, ?_⟩;replace hh:=hh.ext hb_;refine fa ?_;refine⟨⟨i+1,Z',rfl,by rw[oa hz,n7,hall,x7,T6,gz];rfl,hh⟩,by show n-(i+1)<n-i;omega, ?_⟩;exact Rc):p:=h
def lE{p:Prop}(h:p:=by
  refine Yc ?_;refine Qb (i:=5) (by repeat (first|exact Cb|refine Xa ?_|refine Db ?_|refine np_scope ?_)) rfl T' T' T' (λ_=>Ys rfl rfl Z' Z') U' ?_;refine aA ?_;exact W0):p:=h
def aat{p:Prop}(h:p:=by
  clear hh;rintro ρ' w' ⟨m,A,c,hm0,hm1,hh⟩;have hcell:=hE.ld (hh.sub (.cons _ (.cons _ (A_ _))));obtain⟨q,rfl⟩:∃q,m=q+1:=⟨m-1,Z'⟩;refine fa ?_;refine ub ya.out rfl (hcell) U' ?_;by_cases hmn:q+1<=n
  .have hdm:=λA cc w1 hT1 hS1=>Ee A 2 cc [nR (x.ma^q),x] w1 hT1 hS1 (by simpa using⟨(hpow q Z').ok U',hx.1⟩) 128000 (by simpa[Za] using⟨hpow q Z',hx.2.mono Z'⟩) U' U';rw[show Cf ([nR (x.ma^q),x].map NR.ma)=x.ma^(q+1) by show 1*(nR (x.ma^q)).ma*x.ma=_;rw[Za,W7,U5]] at hdm;have hq0:=XT (x:=x.ma) (show q<q+1 by omega);obtain⟨gq,rfl⟩:=hh.Ob (i:=3) rfl Z';refine fa ?_
   refine Cd [] [0] [0,0,2,6,14,0,32,96,224,0,512,1536,3584,7680,15872,32736,65504,0,262112,524256,1048544,2097150,4194303,8388607,16777215] 21 [[(0,none)],[(0,none)],[(31,some 1)],[(32,some 2)],[(33,some 3)],[(0,none)],[(35,some 5)],[(36,some 6)],[(37,some 7)],[(0,none)],[(39,some 9)],[(40,some 10)],[(41,some 11)],[(42,some 12)],[(43,some 13)],[(38,some 8),(44,some 14)],[(45,some 15)],[(4,none)],[(46,some 16),(47,some 17)],[(48,some 18)],[(49,some 19)]] [(20,50),(19,49),(18,48),(17,47),(16,46),(15,45),(14,44),(13,43),(12,42),(11,41),(10,40),(9,39),(8,38),(7,37),(6,36),(5,35),(4,34),(3,33),(2,32),(1,31),(0,30)] hh mixed T' Pd rfl (by repeat (first|exact Cb|refine Xa ?_|refine Db ?_)) ?_;refine dmP ?_;refine dmP ?_;refine dnc ?_;refine ru ?_;refine pK ?_;refine dmP ?_;refine dnc ?_;refine ru ?_;refine pK ?_;refine dmP ?_;refine dnc ?_;refine ru ?_;refine pK ?_;refine Vp ?_;refine Tu ?_;refine Kt (q) ?_;refine Dn [_,_,_] (λ_ hj=>hj.hp.Gd (f:=NR.cells) (x:=nR (x.ma^q)) (l:=rA x.ma (q+1)) (i:=3) rfl NR.len U' hq0) ?_;refine Vd 1 [_,_,_] ?_
   refine qq [_,_,_,_,_,_] ?_;refine Va (i:=19) (Is (.agg #[.bool (nR (x.ma^(q+1))).neg,.string (nR (x.ma^(q+1))).Qa,.int .i64 (nR (x.ma^(q+1))).e])) Is.ext ?_ ?_
   .exact af8
   refine qq [_,_,_] ?_;refine xa ?_;intro f W hJ hV _;have hb_4:=hJ.bl;obtain⟨v50,v49,v48,v47,v46,v45,v44,v43,v42,v41,v40,v39,v38,v37,v36,v35,v34,v33,v32,v31,v30,_⟩:=hV;obtain⟨A48,c48,e48,f48⟩:Rows _ _ _ (f 18) W:=v48;obtain⟨A50,c50,e50,f50⟩:Rows _ _ _ (f 20) W:=v50;replace hh:=hJ.hp;refine Da (Na (aa e50 (aa v49 (aa e48 (aa v47 (aa v46 (aa v45 (aa v44 (aa v43 (aa v42 (aa v41 (aa v40 (aa v39 (aa v38 (aa v37 (aa v36 (aa v35 (aa v34 (aa v33 (aa v32 (aa v31 (aa v30 Ea)))))))))))))))))))))) ?_;dsimp only[Bb];clear e48 e50 hJ;refine Gb hh (i:=3) rfl rfl rfl (f50) lb.out ya.out rfl U' (by first|rfl|exact Xb _|exact Nb _|exact Pa _|exact Ta NR.one _) Z' Z' U' ?_;intro A51 c51 w51 hh;simp only[U_,F_] at hh;refine fa ?_;replace hh:=hh.perm (P_ (l₁:=[_,_]));simp only[C',E'] at hh;refine hE.st (v':=.slice A51 (q+1+1) c51) hh rfl rfl rfl ya.out rfl ?_;intro ws hh;replace hh:=hh.perm (P_ (l₁:=[_,_]));simp only[C',E'] at hh;replace hh:=hh.perm (P_ (l₁:=[_,_]))
   simp only[C',E'] at hh;refine fa ?_;have e1:na NR.cells (rA x.ma (q+1))++[.bool (nR (x.ma^(q+1))).neg,.string (nR (x.ma^(q+1))).Qa,.int .i64 (nR (x.ma^(q+1))).e]=na NR.cells (rA x.ma (q+1+1)):=by rw[show rA x.ma (q+1+1)=rA x.ma (q+1)++[nR (x.ma^(q+1))] from HG _ _,La,Lj];rfl
   rw[e1] at hh;have hcell2:=hE.ld (hh.sub (.cons _ (.cons _ (A_ _))));refine⟨⟨q+1+1,_,_,Z',Z',hh⟩, ?_, ?_⟩
   .unfold tS;rw[hcell,hcell2];show n+1-(q+1+1)<n+1-(q+1);omega
   exact Rc
  exact afG):p:=h
def aae{p:Prop}(h:p:=by
  refine fa ?_;obtain⟨a,s,hW,hs,hE2⟩:=hE2;obtain rfl:=hW wa hwa;replace hs:xb[a]?=some s:=hs;have has:a<xn:=by have:=(X_.1 hs).1;omega
  have hsf:=hz.bx s (G' hs);have hsu:=λw1 hT1=>Bp s.hi s.lo w1 hT1 hsf.2.ok hsf.1.ok 400 hsf.2.sz hsf.1.sz U';have hcm:=λw1 hT1=>xh (nR (s.hi.ma-s.lo.ma)) tol w1 hT1 ((hsf.2.sz.sub hsf.1.sz).ok U') ht;rw[Za] at hcm;have hcl:=yv (s.hi.ma-s.lo.ma) tol.ma;obtain⟨f1,_,_⟩:=hF _ _ hh λy hy=>F' _ (F' _ (F' _ (F' _ hy)));obtain⟨_,hex,hrx⟩:=f1.at_ Z';obtain rfl:=L_ hex;clear hex;clear hwa hW;generalize s.hi.ma-s.lo.ma=wd at*;generalize hcv:Vg wd tol.ma=cv at*;have hcb:=EM wd tol.ma;rw[hcv] at hcb;refine Ca 12 [[(18,none)],[(21,none)],[(103,some 0),(104,some 1)],[(105,some 2)],[(106,some 3)],[(18,none)],[(21,none)],[(108,some 5),(109,some 6)],[(110,some 7)],[(111,some 8)],[(107,some 4),(112,some 9)],[(7,none)]] [(11,114),(10,113),(9,112),(8,111),(7,110),(6,109),(5,108),(4,107),(3,106),(2,105),(1,104),(0,103)] hh mixed T' ?_;refine De ?_;refine cd ?_;refine jj (a) ?_;refine ru ?_;refine Dn [_,_,_] (λ_ hj=>((((hrx.ext hj.bl).recAt SR.len hs).drop 3).take 3)) ?_;refine De ?_
  refine cd ?_;refine jj (a) ?_;refine ru ?_;refine Dn [_,_,_] (λ_ hj=>((((hrx.ext hj.bl).recAt SR.len hs).drop 0).take 3)) ?_;refine dC (λ_ hj=>hsu _ (hT.hp hj.hp)) ?_;refine Vd 3 [_,_,_] ?_;refine xa ?_;intro f W hJ hV;have hb_24:=hJ.bl;obtain⟨v114,v113,v112,v111,v110,v109,v108,v107,v106,v105,v104,v103,_⟩:=hV;replace hh:=hJ.hp;refine Da (Na (aa v114 (aa v113 (aa v112 (aa v111 (aa v110 (aa v109 (aa v108 (aa v107 (aa v106 (aa v105 (aa v104 (aa v103 Ea))))))))))))) ?_;dsimp only[Bb];clear hJ;refine qa (hcm _ (hT.hp hh)) ja.out rfl U' ?_;rintro e_ w115 ⟨rfl,hb_⟩;refine⟨_,rfl, ?_⟩;replace hh:=hh.ext hb_;by_cases hlt:wd<tol.ma
  .rw[J' hlt] at hE2;have hcn:=hcl.2 hlt;refine fa ?_;refine VT ?_;intro b121 w121 hh;refine tF ?_;intro A122 c122 w122 hh;simp only[U_,F_] at hh;replace hh:=hh.sub (s_ _ _);refine fa ?_;replace hh:=hh.perm (P_ (l₁:=[_,_,_]));simp only[C',E'] at hh;replace hh:=hh.perm (P_ (l₁:=[_,_]));simp only[C',E'] at hh;replace hh:=hh.perm (P_ (l₁:=[_,_,_]));simp only[C',E'] at hh;replace hh:=hh.sub (I' _ (I' _ (I' _ (p' _ (A_ _)))))
   refine⟨⟨i+1,fu,r,ls++[⟨2,⟨some ⟨gx,0,none⟩,xn,xc,xb⟩,rd⟩],_,_,_,r.length,c2,_,by rw[Y_];rfl,rfl,rfl,rfl,by rw[n_];exact hE2,λy hy=>⟨x9 _ (hxs y (F' _ hy)).1,(hxs y (F' _ hy)).2⟩,λy hy=> ?_,by rw[Y_];show ls.length+1<=i+1;omega,Z',Z',by rw[Y_,La];exact hh⟩,by show(max bu 0+1).toNat-(i+1)<(max bu 0+1).toNat-i;omega, ?_⟩
   .exact aeL
   exact Rc
  rw[L' hlt] at hE2;have hcn:¬cv<0:=λh=>hlt (hcl.1 h);refine fa ?_;obtain⟨f1,_,_⟩:=hF _ _ hh λy hy=>F' _ (F' _ (F' _ (F' _ hy)));refine qa (zD (some ⟨gx,0,none⟩) xn xc xb a s 400 _ (hT.hp hh) f1 hz.bx Z' U' hs) ja.out rfl U' ?_;rintro e_ w126 ⟨LA,lc,UA,uc,rfl,h3⟩;refine⟨_,rfl, ?_⟩;replace hh:=hh.join h3;clear h3 f1;simp only[C',E'] at hh;refine fa ?_;refine vc hh (cs:=[_,_]) lb.out ya.out (Rb (rp rfl) (Rb (rp rfl) oe)) rfl rfl U' U' U' rfl U' ?_;intro b133 w133 hh;refine oQ ?_;intro A134 c134 w134 hh;simp only[U_,F_] at hh;replace hh:=hh.sub (s_ _ _);refine fa ?_;replace hh:=hh.perm (P_ (l₁:=[_]));simp only[C',E'] at hh;replace hh:=hh.perm (P_ (l₁:=[_]));simp only[C',E'] at hh;replace hh:=hh.perm (P_ (l₁:=[_,_,_,_,_]));simp only[C',E'] at hh;replace hh:=hh.perm (P_ (l₁:=[_,_,_,_]))
  simp only[C',E'] at hh;replace hh:=hh.perm (P_ (l₁:=[_,_,_,_,_]));simp only[C',E'] at hh;replace hh:=hh.sub (I' _ (I' _ (I' _ (I' _ (I' _ (p' _ (A_ _)))))));have hll:∀u,(Fi xb a s u).length=xn:=λu=>by unfold Fi;rw[U9,i'];omega
  refine⟨⟨i+1,fu,⟨LA,xn,lc,Fi xb a s false⟩::⟨UA,xn,uc,Fi xb a s true⟩::r,ls,A1,c1,_,_,_,(⟨UA,xn,uc,Fi xb a s true⟩:ZB).row::(⟨LA,xn,lc,Fi xb a s false⟩:ZB).row::(Rw++.row Af xn af 78 2 (na FX.cells fs)::Rf),rfl,rfl,rfl,rfl,hE2,λy hy=> ?_,λy hy=>F' _ (F' _ (x9 _ (hls y hy))),Z',Z',by show r.length+2<=_;omega, ?_⟩,by show(max bu 0+1).toNat-(i+1)<(max bu 0+1).toNat-i;omega, ?_⟩
  .exact af2
  .exact afJ
  exact Rc):p:=h
def aar{p:Prop}(h:p:=by
  refine fa ?_;refine Oa hh (hof _ hh.below) rfl ?_;intro w30 hh;refine Sb ?_;intro b9 w9 hh ws hh;refine qa (kj fx.A fx.n fx.a fx.ds _ (hf.dg.ext hh.below) Z') ja.out rfl U' ?_;rintro e_ w33 ⟨A33,c33,rfl,hown_,hb_⟩;refine⟨_,rfl, ?_⟩;replace hh:=hh.Aa (x:=.row _ _ _ _ _ _) hb_ hown_;obtain⟨gd,rfl⟩:=hh.Ob (i:=0) rfl Z';refine fa ?_;refine qa (vN gd fx.n c33 a fx.ds _ hh hln Z' Z') ja.out rfl U' ?_;rintro e_ w37 ⟨rfl,hh2⟩;refine⟨_,rfl, ?_⟩;replace hh:=hh2;clear hh2;refine Sb ?_;intro b10 w10 hh ws hh;replace hh:=hh.Lb 30 3;refine Ba [11,12,42,43,44,45,46,47,48,49,50,51,52,53,54,55,56,57,58,59,60,61,62,63,64,65,66,67,68] 42 (λv w'=>∃(i c1:Nat)(B:Option Addr),i<=fx.m/\v=.int .i64 i/\Hp w [.row B (An ap d (d*sd) (fx.cs.map NR.ma) i).length c1 30 3 (na NR.cells ((An ap d (d*sd) (fx.cs.map NR.ma) i).map nR)),.blk b10 78 [.slice (some ⟨gd,0,none⟩) (fx.n-1) c33,.slice B (An ap d (d*sd) (fx.cs.map NR.ma) i).length c1] (0,0),.row (some ⟨gd,0,none⟩) (fx.n-1) c33 3 1 (jb (fx.ds.eraseIdx a)),.blk b9 196 [.int .i64 ((d:Int)+1),.int .i64 (ap:Int)] (0,0),.blk b6 78 [.slice none 0 0,.slice none 0 0] (0,0),.blk b3 78 [.slice fx.A fx.n fx.a,.slice fx.B fx.m fx.b] (0,0)] w') (λv _=>fx.m-(intOf v).toNat) ?_ ?_
  .exact⟨0,0,none,D' _,rfl,hh⟩
  clear hh;rintro ρ' v w' ⟨i,c1,B,hi,rfl,hh⟩;by_cases hlt:i<fx.m
  .obtain⟨x,hx⟩:=ea (l:=fx.cs) (k:=i) Z';obtain⟨adC,hAC,sC⟩:=hf.nm.at_ Z';have hevC:Value.slice fx.B fx.m fx.b=.slice (some adC) fx.m fx.b:=by rw[hAC]
   have hxd:((fx.cs.map NR.ma)[i]?).getD 0=x.ma:=by rw[V_,hx];rfl
   have hxn:nR x.ma=x:=(by exact afL);have hcast:((i:Int)/(ap:Int)) % ((d:Int)+1)=((i/ap % (d+1):Nat):Int):=by norm_cast
   have hq0:(0:Int)<=(i:Int)/(ap:Int):=Int.ediv_nonneg Z' Z';have hst:=Tz ap d (d*sd) (fx.cs.map NR.ma) i;rw[hxd] at hst;have hfl:(An ap d (d*sd) (fx.cs.map NR.ma) i).length<=i:=(by exact adb);generalize hF:An ap d (d*sd) (fx.cs.map NR.ma) i=F at*;by_cases hdg2:i/ap % (d+1)=d*sd
   .rw[J' hdg2] at hst;refine fa ?_;refine zd (k:=i) lb.out ya.size hevC rfl Z' Z' U' ?_;refine wb (vs:=[_,_,_]) ya.out rfl ((sC.ext hh.below).recAt NR.len hx) rfl U' ?_;refine Sb ?_;intro b12 w12 hh ws hh;refine aaO ?_;refine cd ?_;refine yd ?_;refine xe 4 ?_;refine RZ ?_;refine yd ?_;refine xe 4 ?_;refine aaK ?_;refine yd ?_;refine xe 6 ?_;refine cd ?_;refine Va (i:=10) (Is (.pointer (some (ad0.add (a*1))))) (Is.ext) ?_ ?_
    .exact adT
    refine Ro (λ_ hj=>(sD.ext hj.hp.below).aw hgd) ?_;refine cd ?_;refine ace ?_;refine xa ?_;intro f W hJ hV;have hb_11:=hJ.bl;obtain⟨v60,v59,v58,v57,v56,v55,v54,v53,v52,v51,v50,v49,v48,v47,_⟩:=hV;replace hh:=hJ.hp;refine aa0 ?_;dsimp only[Bb];clear hJ;refine fa ?_;refine Nm ?_;intro b65 w65 hh;refine Gx ?_;intro A66 c66 w66 hh;simp only[U_,F_] at hh;replace hh:=hh.sub (s_ _ _);refine Jb ?_;intro ws hh;replace hh:=hh.sub (p' _ (I' _ (I' _ (I' _ (I' _ (I' _ (I' _ H_)))))));refine⟨⟨i+1,c66,A66,Z',rfl, ?_⟩,by show fx.m-(i+1)<fx.m-i;omega, ?_⟩
    .exact adM
    exact Rc
   rw[L' hdg2,o_] at hst;refine fa ?_;refine zd (k:=i) lb.out ya.size hevC rfl Z' Z' U' ?_;refine wb (vs:=[_,_,_]) ya.out rfl ((sC.ext hh.below).recAt NR.len hx) rfl U' ?_;refine Sb ?_;intro b12 w12 hh ws hh;refine aaO ?_;refine cd ?_;refine yd ?_;refine xe 4 ?_;refine RZ ?_;refine yd ?_;refine xe 4 ?_;refine aaK ?_;refine yd ?_;refine xe 6 ?_;refine cd ?_;refine Va (i:=10) (Is (.pointer (some (ad0.add (a*1))))) (Is.ext) ?_ ?_
   .exact adT
   refine Ro (λ_ hj=>(sD.ext hj.hp.below).aw hgd) ?_;refine cd ?_;refine ace ?_;refine xa ?_;intro f W hJ hV;have hb_11:=hJ.bl;obtain⟨v60,v59,v58,v57,v56,v55,v54,v53,v52,v51,v50,v49,v48,v47,_⟩:=hV;replace hh:=hJ.hp;refine aa0 ?_;dsimp only[Bb];clear hJ;refine fa ?_;replace hh:=hh.sub (p' _ (I' _ (I' _ (I' _ (I' _ (I' _ (I' _ H_)))))));refine⟨⟨i+1,c1,B,Z',rfl,by rw[hst];exact hh⟩,by show fx.m-(i+1)<fx.m-i;omega, ?_⟩;exact Rc
  exact afo):p:=h
def QZ{p:Prop}(h:p:=by
  obtain⟨ad',e,r⟩:=hbk.2 Z';obtain rfl:ad=ad':=L_ e;exact r j u hu):p:=h
def o0{p:Prop}(h:p:=by
  cases hx:xs[i]? with
  |none=>exact Sz.zero _
  |some x=>exact h x (G' hx)):p:=h
def aap{p:Prop}(h:p:=by
  exact J_ (Value.int IntKind.i64) (show(n:Int)-1=(n:Int)-1-(0:Nat) by omega)):p:=h
def aaB{p:Prop}(h:p:=by
  exact P7.1 λh=>h3 (M_ (by rwa[ne_eq,n6]))):p:=h
def uQ{p:Prop}(h:p:=by
  refine fa ?_;exact⟨by rw[M_ h],hh.below⟩):p:=h
def aaL{p:Prop}(h:p:=by
  rw[t_ (by rw[u9];omega),t_ Z'];rfl):p:=h
def tZ{p:Prop}(h:p:=by
  have h1:bN m≠0:=λh=>h0 (by rw[h,Vh]);rw[M_ h1];exact⟨rfl,hh.below⟩):p:=h
def PV{p:Prop}(h:p:=by
  refine fa ?_;exact⟨by rw[M_ hg],hh.below⟩):p:=h
def I0{p:Prop}(h:p:=by
  simp only[q_,G9,x6,List.sum_nil,fT];simp only[IR.v,hqv];omega):p:=h
def jV{p:Prop}(h:p:=by
  rw[V_,z9 Z'];rfl):p:=h
def DV{p:Prop}(h:p:=by
  exact⟨0,D' _,rfl,λt ht=>(nomatch ht),hh⟩):p:=h
def JZ{p:Prop}(h:p:=by
  obtain⟨cs,h6,h7⟩:=h5 i Z';rw[hc] at h6;obtain⟨a,rfl,h8⟩:=one _ _ _ h7;exact⟨a,h6,h8⟩):p:=h
def GU{p:Prop}(h:p:=by
  rw[ho] at ho';injection ho' with ho';subst ho';exact hed):p:=h
def aaX{p:Prop}(h:p:=by
  refine fa ?_;rw[Nat.sub_eq_zero_of_le Z',O_ Z',Vh];exact⟨rfl,hh.below⟩):p:=h
def VZ{p:Prop}(h:p:=by
  refine fa ?_;rw[<-hcut,Y_,R_,C9 Z'];exact⟨rfl,hh.below⟩):p:=h
def FZ{p:Prop}(h:p:=by
  have:=hp t (Wi t ht) (i+1) (by rw[E_];omega);rwa[show j+1+i=j+(i+1) by omega]):p:=h
def U0{p:Prop}(h:p:=by
  have h1:bN m=0:=by rw[<-Vh] at h0;exact IB h0
  rw[O_ Z'];exact⟨rfl,hh.below⟩):p:=h
def AZ{p:Prop}(h:p:=by
  induction xs generalizing ys c with
  |nil=>exact Dg.nil
  |cons x xs ih=>exact Dg.cons (B_ _ hB) (ih _ _)):p:=h
def WZ{p:Prop}(h:p:=by
  cases p with
  |nil=>show Sz k (nR 0).ma;rw[Za];exact Sz.zero k
  |cons t p=>exact(hok t q').2):p:=h
def mZ{p:Prop}(h:p:=by
  rw[show(18446744073709551616:Nat)=2^64 from rfl,<-W9];exact m_ Z' Z'):p:=h
def LV{p:Prop}(h:p:=by
  rw[Lh Z' (Lf Z' _ _),Fc hbd]):p:=h
def KZ{p:Prop}(h:p:=by
  rw[f_,p6,o_] at hh;refine fa ?_;exact⟨_,rfl,hh.at_ (i:=0) rfl,hh.below⟩):p:=h
def LR{p:Prop}(h:p:=by
  exact⟨PX.nil,mg.err he,rfl,(hh.sub (R9 _)).OT⟩):p:=h
def VR{p:Prop}(h:p:=by
  refine fa ?_;exact⟨_,_,rfl,World.ownsRow_nil _ _ _ _,hh.below⟩):p:=h
def L0{p:Prop}(h:p:=by
  exact J_ (Value.int IntKind.i64) (show(n:Int)-1-(k:Int)-1=(n:Int)-1-((k+1:Nat):Int) by omega)):p:=h
def pS{p:Prop}(h:p:=by
  refine fa ?_;exact .inl ⟨by rw[hend];decide,by rw[hend],hh.below⟩):p:=h
def adZ{p:Prop}(h:p:=by
  show Value.slice _ (O.length+1) _=Value.slice _ (O++[(⟨x.m,nR (x.c.ma+y.c.ma)⟩:TR)]).length _;rw[Y_];rfl):p:=h
def UZ{p:Prop}(h:p:=by
  have:=jx n zc;rw[hzl] at this;unfold madeCells;rw[hzc];have e2:zc.toArray.size=sz:=by simpa using hzl
  rw[e2,this]):p:=h
def pL{p:Prop}(h:p:=by
  rw[hd] at h1;rw[hd];exact⟨_,_,rfl,h1,hh.below⟩):p:=h
def adM{p:Prop}(h:p:=by
  rw[hst,Y_,n_,La,show[x.ma].map nR=[x] by rw[q_,G9,hxn]];exact hh):p:=h
def aaP{p:Prop}(h:p:=by
  refine fa ?_;refine nu lb.out lb.out lb.out rfl (hh.ra (i:=0) rfl) U' ?_;refine fa ?_;exact⟨rfl,hh.below⟩):p:=h
def aan{p:Prop}(h:p:=by
  unfold Program.cellsOf at hc
  cases hi:P.info? fd.type with
  |none=>simp[hi] at hc
  |some i=>exact⟨i,rfl,by simpa[hi] using hc⟩):p:=h
def abI{p:Prop}(h:p:=by
  cases rest with
  |nil=>simp at hlen;omega
  |cons x r=>exact⟨x,r,rfl⟩):p:=h
def aen{p:Prop}(h:p:=by
  refine a8 λhn=>hall λi hi=> ?_
  cases hc2:L.getD i false with
  |true=>rfl
  |false=>exact absurd ⟨i,hi,hc2⟩ hn):p:=h
def aeR{p:Prop}(h:p:=by
  refine full L a w (fuel+1) hI hall ?_;have hL:L=Ph l.length m:=Iv (by rw[hI.ls,hnn]) hml hall hI.tl;rw[hL,DJ] at hc;omega):p:=h
def aee{p:Prop}(h:p:=by
  refine Sb ?_;intro b2 w2 hh b3 w3 hh;refine Oa hh (xh a b _ (hT.hp hh) ha hb) rfl ?_;intro w7 hh;refine fa ?_;rw[e1];exact⟨rfl,hh.below⟩):p:=h
def aeS{p:Prop}(h:p:=by
  have h2:=hD (i+1) e (by simpa using he);refine⟨h2.1,λt ht=> ?_⟩;have h3:=h2.2 t (Wi t ht);rwa[show j+1+i=j+(i+1) by omega]):p:=h
def ac9{p:Prop}(h:p:=by
  intro ρ1 w1 hj hR;obtain⟨g95,e95,o95⟩:=hR.1;exact Od rfl (Ke (show _=Value.tuple (List.toArray _) from e95) rfl) ⟨Below.refl _ _,rfl⟩):p:=h
def afL{p:Prop}(h:p:=by
  have:((fx.cs.map NR.ma).map nR)[i]?=some x:=by rw[<-hnum];exact hx
  rw[V_,V_,hx] at this;exact L_ this):p:=h
def aex{p:Prop}(h:p:=by
  refine⟨Z', ?_⟩;by_cases hc:x0+2^i*(x1 % 2)<y0+2^i*(y1 % 2)
  .rw[J' hc];rw[hlt] at hc;omega
  rw[L' hc];rw[hlt] at hc;omega):p:=h
def acd{p:Prop}(h:p:=by
  rw[n6];exact⟨λh=>by unfold NR.ma;rw[h];rfl,qu⟩):p:=h
def ack{p:Prop}(h:p:=by
  obtain h|h:=x8 n
  .exact h
  obtain⟨_,h1,_⟩:=hS.2 h;cases h1):p:=h
def ab3{p:Prop}(h:p:=by
  obtain⟨y,hy,hyb⟩:=z8.1 hm;have:=(Lg (hs.own y hy) hyb).2;omega):p:=h
def adE{p:Prop}(h:p:=by
  refine Jb ?_;intro ws hh;refine jP (qd rfl (pd (vs:=[_,_,_,_,_,_]) ya.out (hh.pb (i:=1) (n:=6) rfl rfl) rfl) Be) ?_;exact⟨rfl,hh.below⟩):p:=h
def aY{p:Prop}(h:p:=by
  refine fa ?_;exact⟨by rw[O_ Z'],hh.below⟩):p:=h
def aeu{p:Prop}(h:p:=by
  obtain hy|hy:=z_.1 hy
  .exact⟨(hyR y hy).1,F' _ (hyR y hy).2⟩
  obtain rfl:=T_.1 hy;exact⟨rfl,q'⟩):p:=h
def adU{p:Prop}(h:p:=by
  refine Jb ?_;intro ws hh;refine uu ?_;exact⟨rfl,hh.below⟩):p:=h
def abv{p:Prop}(h:p:=by
  exact⟨0,0,none,[],[],D' _,rfl,rfl,rfl,λy h=>absurd h O9,hh⟩):p:=h
def ab9{p:Prop}(h:p:=by
  rw[I9 Z',hl,f_,H8,q9,hx]):p:=h
def aeh{p:Prop}(h:p:=by
  refine Jb ?_;intro ws hh;refine uu ?_;exact .inl ⟨h0,rfl,hh.below⟩):p:=h
def af8{p:Prop}(h:p:=by
  intro ρ1 w1 hj hR;obtain⟨A48,c48,h48,s48⟩:=hR.1;exact Pb rfl (qb ja.out (Ga h48 Fb)) (hdm A48 c48 _ (hT.hp hj.hp) s48) (λ_ _ hq=>⟨_,hq.1,hq.2,rfl⟩)):p:=h
def adK{p:Prop}(h:p:=by
  refine fa ?_;refine ub ya.out rfl (YG hr (Uc hx) rfl) U' ?_;refine fa ?_;obtain⟨e1,e2⟩:=abD hx (by simp[Td];omega);rw[e1,e2];exact⟨rfl,hh.below⟩):p:=h
def abg{p:Prop}(h:p:=by
  rw[y9] at hun |-;rw[o6 hiL] at hun |-;simpa using hun):p:=h
def adm{p:Prop}(h:p:=by
  refine nF ?_;rw[<-hbar];exact⟨rfl,rows,RS,hh.sub (.cons _ (.cons _ (A_ _))),hfr⟩):p:=h
def ael{p:Prop}(h:p:=by
  have e1:(O++X++Y).length=O.length+n+m:=by rw[Y_,Y_];omega
  exact⟨O++X++Y,A74,c74,hd,by rw[e1],by rw[e1,La,La];exact hh⟩):p:=h
def acY{p:Prop}(h:p:=by
  refine Ft lb.out rfl U' ?_;refine mI ?_;refine yK rfl rfl U' ?_;refine fa ?_;rw[W_ (by rw[<-Tc];omega)] at hm;rw[hm];exact⟨rfl,Below.refl _ _⟩):p:=h
def aef{p:Prop}(h:p:=by
  refine da (N:=58) (l:=[.agg #[.int .i64 v,.slice A n c]]) func83 rfl rfl (by simp) ?_;refine Jb ?_;intro b1 w1 hh;refine Oa hh (hfw _) rfl ?_;intro w7 hh;refine fa ?_;exact⟨rfl,hh.below⟩):p:=h
def adB{p:Prop}(h:p:=by
  rw[htk,hpt,hsd] at htc;refine qa (htc) ja.out rfl U' ?_;rintro e_ w_ ⟨rfl,hh⟩;refine⟨_,rfl, ?_⟩;refine fa ?_;exact⟨rfl,hh.sub (.cons_cons _ (.cons _ (.cons _ (A_ _))))⟩):p:=h
def aca{p:Prop}(h:p:=by
  refine fa ?_;refine Oa hh (mj _ (hT.hp hh)) rfl ?_;intro w34 hh;refine fa ?_;exact⟨rfl,hh.below⟩):p:=h
def afJ{p:Prop}(h:p:=by
  rw[show(⟨LA,xn,lc,Fi xb a s false⟩::⟨UA,xn,uc,Fi xb a s true⟩::r:List ZB).reverse=r.reverse++[⟨UA,xn,uc,Fi xb a s true⟩,⟨LA,xn,lc,Fi xb a s false⟩] by simp,La];exact hh):p:=h
def ac4{p:Prop}(h:p:=by
  refine Jb ?_;intro ws hh;refine jP (qd rfl (pd (vs:=[_,_,_]) ya.out (hh.pb (i:=1) (n:=3) rfl rfl) rfl) Be) ?_;rw[W_ Z'] at hS2;rw[hS2];exact⟨rfl,hh.below⟩):p:=h
def abV{p:Prop}(h:p:=by
  refine da (N:=9) (l:=[.int .i64 v]) func128 rfl rfl (by simp) ?_;refine fa ?_;exact⟨rfl,hh.below⟩):p:=h
def adz{p:Prop}(h:p:=by
  rw[hu];refine Jb ?_;intro ws hh;refine nF ?_;rw[W_ Z'] at hS2;rw[hS2];exact⟨rfl,hh.below⟩):p:=h
def adR{p:Prop}(h:p:=by
  refine Jb ?_;intro ws hh;refine Lk ?_;exact⟨PX.nil,mg.err he0,rfl,(hh.sub (R9 _)).OT⟩):p:=h
def aeF{p:Prop}(h:p:=by
  rw[hod2] at ho;refine fa ?_;refine Pu ?_;refine fa ?_;refine Oa hh (ho _ (Below.refl _ _)) rfl ?_;intro w24 hh;refine fa ?_;exact⟨by rw[J' (.inr rfl)],hh.below⟩):p:=h
def aeJ{p:Prop}(h:p:=by
  have hr0:rest=[]:=C8 Z';subst hr0;refine fa ?_;refine af3 (by first|exact .inr rfl|exact .inl rfl) rfl  ?_;rw[o_,Pg,o_] at*;rw[<-heq];exact⟨rfl,hh⟩):p:=h
def abT{p:Prop}(h:p:=by
  refine fa ?_;refine Iq ?_;refine fa ?_;exact⟨by rw[hc],hh.below⟩):p:=h
def aep{p:Prop}(h:p:=by
  have h3:=hdep (i-m) Z';rw[show m+(i-m)=i by omega] at h3;have h4:(i-m==0)=false:=by simp;omega
  rw[h4,d_] at h3;have:=Bj hM hI.cl i m hed' h3;rw[hI.tl m (j' _)] at this
  cases this):p:=h
def acT{p:Prop}(h:p:=by
  have h1:(Op.equal 30 (.agg #[.bool s,.string a,.int .i64 e]) (.agg #[.bool s',.string a',.int .i64 e'])).run prog w=.ok r w:=by rw[<-hr];exact uR 9997 s s' a a' e e' w
  simp only[execOp,hx,hy];simp[eqGuard,binOp,h1]):p:=h
def acv{p:Prop}(h:p:=by
  refine fa ?_;exact⟨none,0,[],[],rfl,rfl,λx h=>absurd h O9,(hh.sub (R9 _)).Lb _ _⟩):p:=h
def adb{p:Prop}(h:p:=by
  unfold An;rw[i'];exact N_ (m6 _ _) (by rw[u9];exact j' _)):p:=h
def ac3{p:Prop}(h:p:=by
  refine⟨hI.nd,hI.sz,λs=> ?_⟩;by_cases hs:∃i,(i,s)∈ds
  .obtain⟨i,hi⟩:=hs;rw[(Rj _ ds s hnd).1 i hi,(hdsm i s hi).2]
  rw[(Rj _ ds s hnd).2 λi hi=>hs ⟨i,hi⟩];exact hI.ju s λi hi _ hd=>hs ⟨i,hpre i s hi hd⟩):p:=h
def aeL{p:Prop}(h:p:=by
  refine x9 _ ?_;obtain hy|hy:=z_.1 hy
  .exact hls y hy
  rw[T_.1 hy];exact hmx):p:=h
def aeE{p:Prop}(h:p:=by
  rw[hod2] at ho;refine fa ?_;refine Pu ?_;refine fa ?_;refine Oa hh (ho _ (Below.refl _ _)) rfl ?_;intro w24 hh;refine fa ?_;refine⟨?_,hh.below⟩;rw[L'];rintro (h|h)
  .omega
  cases h):p:=h
def adN{p:Prop}(h:p:=by
  have h1:M<256^(Ha 256 M).length:=Ll Z' M;rw[wU Z' h1,f_,p6,o_,MO (λd hd=>(ae (B:=256) Z' M).1 d (g8.1 hd)),sb,List.map_reverse]):p:=h
def aes{p:Prop}(h:p:=by
  rintro e a' w' ⟨ρ',hf',hq⟩;have e1:(λi=>a.tmps.getD i undef)=ρ:=funext hf.at_;have e2:(λi=>a'.tmps.getD i undef)=ρ':=funext hf'.at_
  cases e with
  |normal=>exact⟨⟨ρ',hf',hq.1⟩,by rw[e1,e2];exact hq.2⟩
  |_=>exact⟨ρ',hf',hq⟩):p:=h
def adq{p:Prop}(h:p:=by
  have h1:z.natAbs=y.natAbs*2^j:=by rw[<-hyz,U8,X7];rfl
  have h2:y.natAbs*1<=y.natAbs*2^j:=k_ _ (r_ Z');have h3:Sa y.natAbs<=8*a.size:=Dc Z';rw[lh];omega):p:=h
def aeT{p:Prop}(h:p:=by
  obtain hf|hf:=z_.1 hf
  .exact⟨F' _ (F' _ (hR f hf).1),F' _ (F' _ (hR f hf).2)⟩
  rw[T_.1 hf];exact⟨q',F' _ q'⟩):p:=h
def pY{p:Prop}(h:p:=by
  exact O'):p:=h
def af2{p:Prop}(h:p:=by
  obtain rfl|hy:=S_.1 hy
  .exact⟨F' _ q',(hll false).symm⟩
  obtain rfl|hy:=S_.1 hy
  .exact⟨q',(hll true).symm⟩
  exact⟨F' _ (F' _ (x9 _ (hxs y (F' _ hy)).1)),(hxs y (F' _ hy)).2⟩):p:=h
def acn{p:Prop}(h:p:=by
  rw[hds,g8,z8];refine⟨(some d,i), ?_,rfl⟩;rw[List.mem_zipIdx_iff_getElem?];rw[V_,z9 hi];simp only[M8,hd]):p:=h
def ac6{p:Prop}(h:p:=by
  have e2:na TR.cells (nh l x)=[]++na TR.cells (l.take i)++[.string x.m,.bool (nR x.c.ma).neg,.string (nR x.c.ma).Qa,.int .i64 (nR x.c.ma).e]++na TR.cells (l.drop i):=by rw[hput,La,Fh,E',l_];rfl
  exact aaG):p:=h
def aew{p:Prop}(h:p:=by
  split at h
  .rename_i f hf;have:=B6 hf;simp at this;exact absurd h this
  rename_i hf;split at h
  .cases h
  rename_i hno;refine⟨λe=>hno (.inl (by rw[e];rfl)),λf hm=> ?_,λf hm=> ?_⟩
  .have:=L7.1 hf f hm;simpa using this
  apply a8;intro hne;exact hno (.inr (k9.2 ⟨f,hm,M_ hne⟩))):p:=h
def aeG{p:Prop}(h:p:=by
  have hL:=Iv hsz hml hall htail;have hρ:ρ1=Hf ρ (λi=>ρ1 (dst i)) ds:=JV (f:=λi=>ρ1 (dst i)) (λp hp=>by rw[(hds p hp).2]) (λs hs2=>hag s λj hj _=>hs2 _ (hds2 j hj)) hnd;refine Sg m hml hL (by have:=tI hall;omega) hrd hend ?_;have:=hfin (λi=>ρ1 (dst i)) R w1 (λi hi=>hS i hi (hall i hi)) hh;rwa[<-hρ] at this):p:=h
def DR{p:Prop}(h:p:=by
  intro ρ1 w1 hj hR;exact let⟨g,u,e1,e2⟩:=hR.1;Od rfl (Jc e1) ⟨Below.refl _ _,g,u,rfl,e2⟩):p:=h
def IY{p:Prop}(h:p:=by
  refine jP (qd rfl (pd (vs:=[_,_,_,_,_,_]) ya.out (hh.pb (i:=0) (n:=6) rfl rfl) rfl) Be) ?_;exact⟨rfl,hh.below⟩):p:=h
def ado{p:Prop}(h:p:=by
  refine da (N:=64) (l:=[.agg #[.int .i64 p.v,.slice p.A p.n p.c],.slice xA ys.length xc]) func28 rfl rfl (by simp) ?_;refine Sb ?_;intro b2 w2 hh b4 w4 hh;refine bh ?_;intro w15 hh;exact aas):p:=h
def adi{p:Prop}(h:p:=by
  refine fa ?_;refine ub ya.out rfl ((s2.ext hh.below).aw (by assumption)) U' ?_;refine fa ?_;refine NF ?_;refine Jb ?_;intro ws hh;refine Lk ?_;exact .inl ⟨.inr ⟨h0,by rw[hr1];decide,by rw[hr1];rfl⟩,hh.below⟩):p:=h
def acF{p:Prop}(h:p:=by
  have p1:=hpre i d hi h1;have p2:=hpre j d hj h2;have e1:=((Rj (ρ:=ρ) (λi=>.int .i64 i) ds d hnd).1 i p1).symm.trans ((Rj (ρ:=ρ) (λi=>.int .i64 i) ds d hnd).1 j p2);injection e1 with _ e1
  omega):p:=h
def UR{p:Prop}(h:p:=by
  intro ρ1 w1 hj hR;exact let⟨g,u,e1,e2⟩:=hR.1;Od rfl (Ke (vs:=[_,_]) e1 rfl) ⟨Below.refl _ _,rfl⟩):p:=h
def yS{p:Prop}(h:p:=by
  intro ρ1 w1 hj hR;exact let⟨g,u,e1,e2⟩:=hR.1;Od rfl (Ke (vs:=[_,_]) e1 rfl) ⟨Below.refl _ _,g,u,rfl,e2⟩):p:=h
def adP{p:Prop}(h:p:=by
  refine da (N:=11) (l:=[.slice A n c]) func219 rfl rfl (by simp) ?_;refine Jb ?_;intro b1 w1 hh;refine Pu ?_;have hp:=hh.eg (i:=0) (o:=0) rfl rfl;refine fa ?_;refine Oa hh (bJ A n c t _ [.pointer (some ⟨b1,0,none⟩)] (λx=>decide (x.n≠n)) _ (hS.ext hh.below) hn λz w1 _ hb=>Xy z n A c _ w1 (ic hb hp)) rfl ?_;intro w9 hh;rw[ga];refine fa ?_;exact⟨rfl,hh.below⟩):p:=h
def xx{p:Prop}(h:p:=by
  refine fa ?_;exact⟨_,rfl,λh=>(by cases h),hh.below⟩):p:=h
def SB{p:Prop}(h:p:=by
  refine fa ?_;exact⟨_,_,rfl,hh.at_ (i:=0) rfl,hh.below⟩):p:=h
def aeH{p:Prop}(h:p:=by
  simp only[Hb];rw[<-htake];have h5:o+vs.length<=m*sz:=Z';have h6:m*sz<=cur.toList.length:=by rw[<-hcl,hcur];exact hle
  rw[List.take_take,C9 Z',List.drop_take,l_,l_,List.take_append,List.take_append];simp only[R_,C9 (show o<=cur.toList.length by omega)];rw[W_ (l:=cur.toList.take o) (by simp;omega),W_ (l:=vs) Z'];congr 2;congr 1;omega):p:=h
def aeq{p:Prop}(h:p:=by
  by_cases hif:i∈fr
  .obtain⟨d,t,ty,pos,af,n,ag,by',zc,hi1,ht⟩:=hfr.at i hif;have ho2:o=⟨some d,.alloc t,ty,pos,af,none⟩:=by
    have h7:=ho;rw[j8,hi1] at h7;injection h7 with h7
    exact h7.symm
   have hds:d<a.tmps.size:=(by rw[hI.sz];exact hdN (i,d) (hpre i d him (by rw[ho,ho2];rfl)));subst ho2;exact TU ht hog a hds _ _ (λ_=>rfl) λv w' hk hb=>hnext v w' hk λ_=>hb
  exact hog.out a _ _ (λ_=>rfl) λv w2 hv=>hnext v w2 hv λh=>absurd h hif):p:=h
def acW{p:Prop}(h:p:=by
  intro L a w hI hc;have hall:∀i,i<l.length->L.getD i false=true:=λi hi=>(by exact jZ);have hmn:l.length<=0+m:=by
   obtain h|h:=Y9 m l.length
   .have h1:=hall m h;rw[hI.tl m (j' _)] at h1
    cases h1
   omega
  exact full L a w 0 hI (λi hi=>hall i Z') hmn):p:=h
def adJ{p:Prop}(h:p:=by
  refine Yc ?_;refine Sg 7 U' T' U' T' T' ?_;refine Jb ?_;intro ws hh;refine⟨⟨_,_,rfl,rfl,hh.sub (.cons_cons _ (.cons_cons _ (.cons_cons _ (R9 _))))⟩, ?_⟩;repeat refine Wc rfl ?_
  exact λ_ _=>rfl):p:=h
def adh{p:Prop}(h:p:=by
  have hdm:j/sz*sz+j % sz=j:=by rw[G_];exact E9 j sz
  have hmod:j % sz<sz:=B_ _ h0;have hj:j/sz<l.length:=(by have:=(X_.1 hu).1;rw[ve hf] at this;exact Nat.div_lt_of_lt_mul (by rw[G_];exact this));obtain⟨x,hx⟩:=ea hj;have h6:=zr hf hx;have h7:(f x)[j % sz]?=some u:=(by rw[<-h6,Z7,J' hmod,H8,hdm];exact hu);have h8:=(World.cells?_some (hp _ _ hx).1).2.2 (j % sz) hmod;rw[h7,Xq,hdm] at h8;exact h8):p:=h
def vQ{p:Prop}(h:p:=by
  rw[W_ Z'] at hall;refine fa ?_;exact⟨_,rfl,⟨λh=>absurd h U',λh=>by rw[hall] at h;cases h⟩,hh.below⟩):p:=h
def adO{p:Prop}(h:p:=by
  have hJ0:J ({ w with drawn:=w.drawn+1 }:World):=hJ w _ h0 ⟨rfl,rfl,rfl,j' _,λ_ _=>rfl⟩;have hr0:∀i,(Array.replicate l.toArray.size false).getD i false=false:=λi=>(by rw[y9,H5];split<;>rfl);refine key _ _ _ _ ⟨hf.nd,hf.sz,hJ0,by simp,λk o _ hk=> ?_,λk _=>hr0 k,λi d _ hi=> ?_,λs _=>hf.at_ s,λi _ hi=> ?_,λi _ j _ _ hi=> ?_⟩ ?_
  .rw[hr0] at hk;cases hk
  .rw[hr0] at hi;cases hi
  .rw[hr0] at hi;cases hi
  .rw[hr0] at hi;cases hi
  simp[List.countP_replicate]):p:=h
def KP{p:Prop}(h:p:=by
  refine nF ?_;exact⟨rfl,hh.below⟩):p:=h
def adT{p:Prop}(h:p:=by
  intro ρ1 w1 hj hR;exact Od rfl (lg (k:=a) lb.out ya.size ((show ρ1 55=Value.slice _ _ _ from hR.1).trans om) (show ρ1 56=Value.int _ _ from hR.2.1) Z' Z') ⟨Below.refl _ _,rfl⟩):p:=h
def afG{p:Prop}(h:p:=by
  have hn0:=XT (x:=x.ma) (m:=q+1) (i:=n) Z';obtain⟨gq,rfl⟩:=hh.Ob (i:=3) rfl Z';refine fa ?_;refine ub ya.out rfl (hE.ld (hh.sub (.cons _ (.cons _ (A_ _))))) U' ?_;refine fa ?_;refine wb (vs:=[_,_,_]) ya.out rfl (hh.Gd (f:=NR.cells) (x:=nR (x.ma^n)) (l:=rA x.ma (q+1)) (i:=3) rfl NR.len U' hn0) rfl U' ?_;refine Jb ?_;intro ws hh;refine CA ?_;exact⟨rfl,_,_,_,hm1,hh.sub (.cons _ (.cons _ (A_ _)))⟩):p:=h
def acq{p:Prop}(h:p:=by
  refine GR ?_;refine Jb ?_;intro b3 w3 hh;refine bh ?_;intro w12 hh;refine fa ?_;refine Oa hh (hbk _ (hT.hp hh) hh.below) rfl ?_;intro w17 hh;refine fa ?_;exact⟨rfl,hh.below⟩):p:=h
def adV{p:Prop}(h:p:=by
  unfold ByteArray.toList;have:∀(n i:Nat)(r:List UInt8),s.size-i=n->ByteArray.toList.loop s i r=r.reverse++s.data.toList.drop i:=by
   intro n
   induction n with
   |zero=>
    intro i r h;rw[ByteArray.toList.loop,L' Z',B8 (by rw[Array.length_toList];show s.size<=i;omega)];simp
   |succ n ih=>
    intro i r h;have hi:i<s.size:=Z';rw[ByteArray.toList.loop,J' hi,ih (i+1) _ Z'];have hi2:i<s.data.toList.length:=by rw[Array.length_toList];exact hi
    rw[m8 hi2];have:s.get! i=s.data.toList[i]:=(by show s.data[i]! =_;rw[getElem!_pos s.data i (by simpa using hi2)];simp);simp[this]
  simpa using this (s.size-0) 0 [] rfl):p:=h
def abQ{p:Prop}(h:p:=by
  have h16:¬2^24<len*sz:=Z';have hf':=CC _ _ _ hf;rw[<-jx,hzl] at hf';have hzs:zc.toArray.size=sz:=by simpa using hzl
  have hp':=MK parts hp;simp only[execOp,hp',Instr.buildSlice,Sem.run_bind,run_underlying ht,Result.andThen_ok,zf hte,gt_iff_lt,L' h16,L' h0,hz,hzc,Sem.run_pure,hzs,hf'];simp[newRow]):p:=h
def XX{p:Prop}(h:p:=by
  exact⟨g,og,rfl,hh.sub (I' _ (R9 _))⟩):p:=h
def FP{p:Prop}(h:p:=by
  refine Jb ?_;intro ws hh;refine jP (qd rfl (pd (vs:=[_,_,_]) ya.out (hh.pb (i:=1) (n:=3) rfl rfl) rfl) Be) ?_;exact⟨rfl,hh.below⟩):p:=h
def adx{p:Prop}(h:p:=by
  refine Jb ?_;intro b2 w2 hh;refine bh ?_;intro w7 hh;refine fa ?_;exact⟨rfl,hh.below⟩):p:=h
def afo{p:Prop}(h:p:=by
  obtain rfl:i=fx.m:=Z';refine Jb ?_;intro ws hh;replace hh:=hh.sub (I' _ (p' _ (I' _ (p' _ (I' _ (p' _ H_))))));refine Lk ?_;refine⟨⟨some ⟨gd,0,none⟩,fx.n-1,c33,B,(An ap d (d*sd) (fx.cs.map NR.ma) fx.m).length,c1,fx.ds.eraseIdx a,(An ap d (d*sd) (fx.cs.map NR.ma) fx.m).map nR⟩,rfl,rfl,by show fx.n-1<=100000;omega, ?_,rfl,hh.sub (P5 [_,_] _)⟩;show(An ap d (d*sd) (fx.cs.map NR.ma) fx.m).length<=1000000;unfold An;rw[i'];exact N_ (m6 _ _) (by rw[u9];omega)):p:=h
def ads{p:Prop}(h:p:=by
  refine fa ?_;refine Ca 7 [[(2,none)],[(3,none)],[(12,some 1)],[(11,some 0),(13,some 2)],[(3,none)],[(2,none)],[(16,some 5)]] [(6,17),(5,16),(4,15),(3,14),(2,13),(1,12),(0,11)] hh mixed T' ?_;refine Vd 1 [_,_,_,_,_,_] ?_;refine yd ?_;refine Vd 0 [_,_,_] ?_;refine dC (λ_ hj=>h1 _ (hT.hp hj.hp)) ?_;refine Vd 0 [_,_,_,_,_,_] ?_;refine yd ?_;refine Vd 1 [_,_,_] ?_;refine xa ?_;intro f W hJ hV;have hb_3:=hJ.bl;obtain⟨v17,v16,v15,v14,v13,v12,v11,_⟩:=hV;replace hh:=hJ.hp;refine Da (Na (aa v17 (aa v16 (aa v15 (aa v14 (aa v13 (aa v12 (aa v11 Ea)))))))) ?_;dsimp only[Bb];clear hJ;refine Oa hh (h2 _ (hT.hp hh)) rfl ?_;intro w18 hh;refine Oa hh (hc _ (hT.hp hh)) rfl ?_;intro w19 hh;refine fa ?_;exact⟨rfl,hh.below⟩):p:=h
def kT{p:Prop}(h:p:=by
  refine Jb ?_;intro ws hh;refine uu ?_;exact⟨PX.nil,mg.err h0,rfl,(hh.sub (R9 _)).OT⟩):p:=h
def ac1{p:Prop}(h:p:=by
  refine Yc ?_;refine Sg 3 U' T' U' T' T' ?_;refine rf hh 3 [_,_] ?_;intro ws hh;replace hh:Hp _ (_::_::_::.blk _ _ [_,_] _::_) _:=hh;refine aB (ua (Bn ?_));refine qc3 (qd rfl (pd (vs:=[_,_]) ya.out (hh.pb (i:=4) (n:=2) rfl rfl) rfl) (qd rfl (pd (vs:=[_,_]) ya.out (hh.pb (i:=3) (n:=2) rfl rfl) rfl) (gh (Ck rfl) Be))) ?_;exact⟨rfl,hh.below⟩):p:=h
def OV{p:Prop}(h:p:=by
  refine uK ?_;rintro e_ w16 ⟨rfl,hb_⟩;refine⟨_,rfl, ?_⟩;replace hh:=hh.ext hb_;refine fa ?_;exact⟨_,rfl,⟨λ_=>k9.2 ⟨z,G' hz,gz⟩,λ_=>by omega⟩,hh.below⟩):p:=h
def CR{p:Prop}(h:p:=by
  rintro e_ w7 ⟨v_,rfl,hv_,hb_⟩;refine⟨_,rfl, ?_⟩;replace hh:=hh.ext hb_
  cases ga:l.any p with
  |true=>
   have h0:=hv_.2 ga;refine fa ?_;exact⟨rfl,hh.below⟩
  |false=>
   have h0:¬0<=v_:=λh=>by rw[hv_.1 h] at ga;cases ga
   refine fa ?_;exact⟨rfl,hh.below⟩):p:=h
def acz{p:Prop}(h:p:=by
  rw[hds,g8,z8] at hp;obtain⟨⟨x,k⟩,hx,hxe⟩:=hp;rw[List.mem_zipIdx_iff_getElem?] at hx
  cases x with
  |none=>simp at hxe
  |some d'=>
   simp only[M8,S8,Prod.mk.injEq] at hxe;obtain⟨rfl,rfl⟩:=hxe;rw[V_] at hx
   cases hr:(List.range m)[k]? with
   |none=>rw[hr] at hx;simp at hx
   |some y=>
    have hkm:k<m:=(by have:=(X_.1 hr).1;simpa using this);rw[z9 hkm] at hx;simp only[M8,S8] at hx;exact⟨hkm,hx⟩):p:=h
def adS{p:Prop}(h:p:=by
  exfalso;have hmin:∀k,(∃i,i<k/\i<m/\L.getD i false=false)->∃i,i<m/\L.getD i false=false/\∀j,j<i->L.getD j false=true:=by
   intro k
   induction k with
   |zero=>rintro ⟨i,h,_⟩;omega
   |succ k ihk=>
    rintro ⟨i,h1,h2,h3⟩;by_cases hex:∃i,i<k/\i<m/\L.getD i false=false
    .exact ihk hex
    exact aaM
  obtain⟨i0,h1,h2⟩:=hsome;obtain⟨i,hi,hu,hlow⟩:=hmin (i0+1) ⟨i0,Z',h1,h2⟩;exact GZ):p:=h
def acb{p:Prop}(h:p:=by
  unfold Region.ready;rw[j9,g_,hnn];constructor
  .rintro ⟨h1,h2⟩;have ho:l.toArray[i]?=some l[i]:=by simp[h1]
   rw[ho] at h2;simp only[M8,l9,Q_,z7] at h2;refine⟨h1,h2.1,l[i],ho,λe he hb=> ?_⟩;have:=F6.1 h2.2 e he;simpa[hb] using this
  rintro ⟨h1,h2,o,ho,h3⟩;refine⟨h1, ?_⟩;rw[ho];exact aaU):p:=h
def bU{p:Prop}(h:p:=by
  refine Jb ?_;intro ws hh;refine BF ?_;exact⟨g,og,rfl,hh.sub (I' _ (R9 _))⟩):p:=h
def Vu{p:Prop}(h:p:=by
  refine Jb ?_;intro ws hh;exact uZ):p:=h
def xF{p:Prop}(h:p:=by
  refine Cu (c:=cc) lb.out rfl rfl Z' hcc U' ?_;skip;refine Hy lb.out lb.out rfl Z' Z' U' ?_;refine lj (aI (ua (Bn ?_)));refine qa1 ?_;refine⟨?_,Below.refl _ _⟩;congr 2;rw[hcv];omega):p:=h
def zW9{p:Prop}(h:p:=by
  refine O0 ?_;refine Vd 2 [_,_] ?_;refine dC (λ_ hj=>hfm _) ?_;refine Vd 1 [_,_] ?_;refine xa ?_;intro p_ hp_;simp only[S_,O9,or_false] at hp_;obtain rfl|rfl:=hp_
  .intro f W hJ hV;have hb_10:=hJ.bl;obtain⟨v49,v48,_⟩:=hV;simp only[Hf];have e48:f 0=_:=v48;rw[e48];have e49:f 1=_:=v49;rw[e49];replace hh:=hJ.hp;clear e48 e49 hJ;refine rf hh 2 [_,_] ?_;intro ws hh;replace hh:Hp _ (_::_::.blk _ _ [_,_] _::_) _:=hh;refine Yc ?_;refine ze (i:=2) T' rfl ?_;refine zl hh 1 [_,_] ?_;exact aaa
  intro f W hJ hV;have hb_10:=hJ.bl;obtain⟨v50,v49,v48,_⟩:=hV;simp only[Hf];have e48:f 0=_:=v48;rw[e48];have e49:f 1=_:=v49;rw[e49];have e50:f 2=_:=v50;rw[e50];replace hh:=hJ.hp;clear e48 e49 e50 hJ;refine rf hh 2 [_,_] ?_;intro ws hh;replace hh:Hp _ (_::_::.blk _ _ [_,_] _::_) _:=hh;exact aaa):p:=h
def zW8{p:Prop}(h:p:=by
  refine Qr ?_;refine dS (dS (dS (dU (dU (dU (dU ?_))))));refine kH (i:=28) rfl (λρ1 w1 hj hR=>(show ρ1 44=undef from hR.2.2.1)) ?_;refine dU (dU (dU (dU ?_)));refine xa ?_;intro f W hJ hV _;have hb_8:=hJ.bl;obtain⟨v53,v52,v51,v50,v49,v48,v47,v46,v45,v44,v43,v42,v41,v40,v39,v38,v37,v36,v35,v34,v33,v32,v31,v30,v29,v28,v27,v26,v25,v24,v23,v22,v21,_⟩:=hV;replace hh:=hJ.hp;refine aM ?_;exact sS):p:=h
def zW7{p:Prop}(h:p:=by
  refine fa ?_;rw[hs];refine Sb ?_;intro b6 w6 hh ws hh;refine Ca 9 [[(6,none)],[(30,some 0)],[(2,none)],[(31,some 1),(32,some 2)],[(6,none)],[(34,some 4)],[(3,none)],[(35,some 5),(36,some 6)],[(6,none)]] [(8,38),(7,37),(6,36),(5,35),(4,34),(3,33),(2,32),(1,31),(0,30)] hh mixed T' ?_;refine yd ?_;refine xe 0 ?_;refine Vd 3 [_,_,_] ?_;refine dC (λ_ hj=>hcx _ (hT.hp hj.hp)) ?_;refine yd ?_;refine xe 0 ?_;refine Vd 2 [_,_,_] ?_;refine dC (λ_ hj=>hcy _ (hT.hp hj.hp)) ?_;refine yd ?_;refine xa ?_;intro f W hJ hV;have hb_8:=hJ.bl;obtain⟨v38,v37,v36,v35,v34,v33,v32,v31,v30,_⟩:=hV;replace hh:=hJ.hp;refine Da (Na (aa v38 (aa v37 (aa v36 (aa v35 (aa v34 (aa v33 (aa v32 (aa v31 (aa v30 Ea)))))))))) ?_;dsimp only[Bb];clear hJ;refine Dm ?_;intro ws hh ws hh ws hh;refine jP (qd rfl (pd (vs:=[_,_,_,_,_]) ya.out (hh.pb (i:=1) (n:=5) rfl rfl) rfl) Be) ?_;exact⟨rfl,hh.below⟩):p:=h
def YW{p:Prop}(h:p:=by
  refine uu ?_;exact BV):p:=h
def zW5{p:Prop}(h:p:=by
  intro w40 hh;rw[td];refine Bi (ua (cF (Mc (wc (mb ?_)))));refine Ko hh mixed λw_ hj_=> ?_;replace hh:=hj_.hp;clear hj_;refine Gt (i:=0) (i2:=1) T' rfl rfl ?_ ?_
  .refine zl hh 1 [_,_] ?_;refine Yc ?_;refine Gt (i:=1) (i2:=2) T' rfl rfl ?_ ?_
   .refine zl hh 0 [_,_] ?_;exact LZ
   refine rf hh 3 [_,_] ?_;intro ws hh;replace hh:Hp _ (_::_::_::.blk _ _ [_,_] _::_) _:=hh;refine Yc ?_;refine ze (i:=1) T' rfl ?_;refine zl hh 0 [_,_] ?_;exact aa1
  refine zl hh 0 [_,_] ?_;refine Yc ?_;refine ze (i:=0) T' rfl ?_;refine zl hh 1 [_,_] ?_;exact LZ):p:=h
def lH{p:Prop}(h:p:=by
  refine Jb ?_;intro ws hh;refine CA ?_;exact⟨rfl,hh.below⟩):p:=h
def zW3{p:Prop}(h:p:=by
  refine O0 ?_;refine Vd 1 [_,_] ?_;refine dC (λ_ hj=>hfm _) ?_;refine Vd 0 [_,_] ?_;refine xa ?_;intro p_ hp_;simp only[S_,O9,or_false] at hp_;obtain rfl|rfl:=hp_
  .intro f W hJ hV;have hb_10:=hJ.bl;obtain⟨v49,v48,_⟩:=hV;simp only[Hf];have e48:f 0=_:=v48;rw[e48];have e49:f 1=_:=v49;rw[e49];replace hh:=hJ.hp;clear e48 e49 hJ;refine rf hh 1 [_,_] ?_;intro ws hh;replace hh:Hp _ (_::.blk _ _ [_,_] _::_) _:=hh;refine Yc ?_;refine ze (i:=2) T' rfl ?_;refine zl hh 0 [_,_] ?_;exact YZ
  intro f W hJ hV;have hb_10:=hJ.bl;obtain⟨v50,v49,v48,_⟩:=hV;simp only[Hf];have e48:f 0=_:=v48;rw[e48];have e49:f 1=_:=v49;rw[e49];have e50:f 2=_:=v50;rw[e50];replace hh:=hJ.hp;clear e48 e49 e50 hJ;refine rf hh 1 [_,_] ?_;intro ws hh;replace hh:Hp _ (_::.blk _ _ [_,_] _::_) _:=hh;exact YZ):p:=h
def zW2{p:Prop}(h:p:=by
  refine Yc ?_;refine Sg 18 U' T' U' T' T' ?_;refine Nd (k:=k+i) lb.out ya.size rfl rfl Z' Z' U' ?_;refine Ab hh (i:=3) (vs:=[_]) rfl rfl (rp rfl) rfl ya.out rfl (by rw[Ze (by rw[hrc];show k*1+1<=_;omega)];omega) rfl ?_;intro ws hh;replace hh:=show Hp w0 (_::_::_::.row (some ⟨gB,0,none⟩) n c 215 1 (Hb (Hb (na WX.cells rows) (k*1) (WX.cells x)) ((k+i)*1) (WX.cells xk))::RS) ws from hh;refine ua (Kb (mB ?_));refine CS ?_;refine aB (ua ?_);refine⟨hfin _ hh, ?_⟩;repeat refine Wc rfl ?_
  exact λ_ _=>rfl):p:=h
def Rc{p:Prop}(h:p:=by
  exact P'):p:=h
variable {H:Type}{enc:TypeId×Value->H}{P:Program}
def bp(hl:laidOutB P=true){W W':World}(hb:Below W.heap.size W W')(sp:Nat->Bool):∀(ts:List TypeId)(vs:List Value)(ds:List (DataW H))(ps:List MemPlace),(∀t∈ts,P.readableRec t=true/\t<P.types.size)->(∀x∈ps,x.block<W.heap.size)->(∀x∈ps,sp x.block=true)->DataW.TrodAll enc P W 0 (λ_=>true) true ts vs ds ps->DataW.TrodAll enc P W' 0 sp true ts vs ds ps
 |[],vs,ds,ps,_,_,_,h=>(by obtain⟨rfl,rfl,rfl⟩:=trodAll_nil h;exact trodAll_mk0)
 |t::ts,vs,ds,ps,hr,hlt,hsp,h=>by
  obtain⟨v,vs',d,ds',p,q,rfl,rfl,rfl,h0,r0⟩:=trodAll_cons h;refine trodAll_cons_mk (WideElems.Trod_stays hl (hr t q').1 (hr t q').2 h0 (λx hx=>hb.same (hlt x (x9 _ hx))) (λx hx=>hsp x (x9 _ hx))) (bp hl hb sp ts vs' ds' q (λt ht=>hr t (F' _ ht)) (λx hx=>hlt x (W8 _ hx)) (λx hx=>hsp x (W8 _ hx)) r0)
def gR{f:Func}{s:ChangeSpec}{W W':World}{args:Array Value}{ds:List (DataW H)}{before:List MemPlace}{tb:TypeId} (hW:DataW.Whole enc P f.params.toList s.vars false W args.toList ds [] before)(hv:s.vars=[])(hl:laidOutB P=true)(hr:∀t∈f.params.toList,P.readableRec t=true/\t<P.types.size) (hres:f.resultTypes= #[tb])(hbool:P.underlying tb=some .bool)(hs1:(s.fn H (ds++[])).results=[.lit (.bool true)])(hs2:(s.fn H (ds++[])).args=ds)(hs3:(s.fn H (ds++[])).vars=[])(hb:Below W.heap.size W W'):
  s.post enc P f false true false false W args (.bool true) W':=by
 have hlt:∀p∈before,p.block<W.heap.size:=λp hp=>by simpa using hW.lt p hp
 have hold:∀p∈before,(λb=>decide (b<W.heap.size)) p.block=true:=λp hp=>by simpa using hlt p hp
 have hW0:=hW;obtain⟨pa,pv,hA,hV,hps,hz,hn⟩:=hW0;rw[hv] at hV;obtain⟨_,rfl⟩:=trodVars_none hV;have hbp:before=pa:=by rw[hps,o_]
 subst hbp;have hA':∀sp:Nat->Bool,(∀p∈before,sp p.block=true)->DataW.TrodAll enc P W' 0 sp true f.params.toList args.toList (s.fn H (ds++[])).args before:=λsp hsp=>(by rw[hs2];exact bp hl hb sp _ _ _ _ hr hlt hsp hA);have hV':∀sp:Nat->Bool,DataW.TrodVars enc P W' sp s.vars (s.fn H (ds++[])).vars []:=λsp=>(by rw[hv,hs3];rfl);have hR:∀(b:Nat)(sp:Nat->Bool)(hd:Bool),DataW.TrodAll enc P W' b sp hd f.resultTypes.toList ((Value.bool true).resultList f.resultTypes.size) (s.fn H (ds++[])).results []:=λb sp hd=>(by rw[hres,hs1];exact trodAll_cons_mk (shut_bool hbool _) trodAll_mk0);refine⟨ds,[],before,[],before,[],hW,hR _ _ _,hA' _ hold,hV' _,World.keptBut_mono (λp hp=>⟨hp, ?_⟩) (hb.frame (· ∈before)),λ_=> ?_⟩
 .exact .inr (.inl hp)
 refine⟨ok_one hres rfl (okWide_bool_mk hbool _),_,_,([]++before)++[],⟨[]++before,[],trodAll_append (hA' _ (λ_ _=>rfl)) (hR _ _ _),hV' _,rfl, ?_, ?_⟩, ?_⟩
 .intro b off hp;have hp2:=hz b off (by simpa using hp);rw[hb.frozen (hlt _ (by simpa using hp))];exact hp2
 .intro ha
  cases ha
 intro p hp _;simpa using hp
end Go.Proofs.YtbencocchdpikaaGreatDoor
