/- Lemmas for solveApart, part 1. -/
import Derived.KernelRfl
import Derived.WalkKit
import Derived.WalkLawsBesides
import Derived.Below
import Derived.Laws.OwnMore
import Derived.Laws.Rows
import Derived.RegionTactic
import Derived.ControlIn
import Derived.TacticsIn
import Derived.AtR
import Derived.Deep.AppendLies
import Derived.Maps.AppendAt
import Derived.OwnWalk
import Derived.Test.YtbencocchdpikaaGreatDoorRows
set_option linter.all false
set_option maxHeartbeats 0
namespace Go.Proofs.YtbencocchdpikaaGreatDoor
open Go.Proofs.Tryz
def Q':type_of% @if_neg:=@if_neg
def P':type_of% @if_pos:=@if_pos
def O':type_of% @List.Sublist.cons_cons:=@List.Sublist.cons_cons
def N':type_of% @List.mem_of_getElem?:=@List.mem_of_getElem?
def L':type_of% @List.mem_cons_of_mem:=@List.mem_cons_of_mem
def J':type_of% @Nat.zero_le:=@Nat.zero_le
def I':type_of% @List.mem_cons_self:=@List.mem_cons_self
def G':type_of% @List.Sublist.cons:=@List.Sublist.cons
def F':type_of% @List.nil_append:=@List.nil_append
def E':type_of% @Nat.le_refl:=@Nat.le_refl
def D':type_of% @List.length_map:=@List.length_map
def C':type_of% @List.cons_append:=@List.cons_append
def B':type_of% @List.mem_map:=@List.mem_map
def z':type_of% @List.getElem?_map:=@List.getElem?_map
def y':type_of% @List.length_append:=@List.length_append
def x':type_of% @List.getElem?_eq_some_iff:=@List.getElem?_eq_some_iff
def w':type_of% @List.take_of_length_le:=@List.take_of_length_le
def u':type_of% @List.mem_cons:=@List.mem_cons
def q':type_of% @List.mem_singleton:=@List.mem_singleton
def p':type_of% @List.length_take:=@List.length_take
def m':type_of% @decide_eq_true:=@decide_eq_true
def l':type_of% @Bool.and_eq_true:=@Bool.and_eq_true
def k':type_of% @decide_eq_false:=@decide_eq_false
def j':type_of% @List.set_cons_zero:=@List.set_cons_zero
def i':type_of% @Option.some.inj:=@Option.some.inj
def h':type_of% @decide_eq_true_eq:=@decide_eq_true_eq
def d':type_of% @Nat.le_trans:=@Nat.le_trans
def Z_:type_of% @List.Sublist.slnil:=@List.Sublist.slnil
def Y_:type_of% @congrArg:=@congrArg
def X_:type_of% @Nat.mul_one:=@Nat.mul_one
def W_:type_of% @List.perm_middle:=@List.perm_middle
def V_:type_of% @Nat.mul_comm:=@Nat.mul_comm
def U_:type_of% @Nat.zero_add:=@Nat.zero_add
def T_:type_of% @List.length_cons:=@List.length_cons
def S_:type_of% @List.mem_range:=@List.mem_range
def R_:type_of% @Nat.pow_add:=@Nat.pow_add
def Q_:type_of% @Nat.mod_lt:=@Nat.mod_lt
def P_:type_of% @List.Sublist.refl:=@List.Sublist.refl
def O_:type_of% @List.mem_append:=@List.mem_append
def N_:type_of% @Nat.pow_pos:=@Nat.pow_pos
def M_:type_of% @List.append_nil:=@List.append_nil
def L_:type_of% @List.all_eq_true:=@List.all_eq_true
def K_:type_of% @List.getElem?_eq_none:=@List.getElem?_eq_none
def J_:type_of% @Nat.pow_le_pow_right:=@Nat.pow_le_pow_right
def I_:type_of% @List.map_cons:=@List.map_cons
def H_:type_of% @List.append_assoc:=@List.append_assoc
def G_:type_of% @List.map_append:=@List.map_append
def F_:type_of% @List.length_reverse:=@List.length_reverse
def E_:type_of% @Nat.mod_eq_of_lt:=@Nat.mod_eq_of_lt
def D_:type_of% @Nat.mul_le_mul_left:=@Nat.mul_le_mul_left
def C_:type_of% @List.mem_iff_getElem?:=@List.mem_iff_getElem?
def B_:type_of% @Nat.pow_succ:=@Nat.pow_succ
def A_:type_of% @List.map_map:=@List.map_map
def z_:type_of% @Bool.false_or:=@Bool.false_or
def u_:type_of% @Nat.sub_self:=@Nat.sub_self
def t_:type_of% @List.set_cons_succ:=@List.set_cons_succ
def s_:type_of% @Nat.div_eq_of_lt:=@Nat.div_eq_of_lt
def r_:type_of% @List.sublist_cons_self:=@List.sublist_cons_self
def q_:type_of% @List.take_append_drop:=@List.take_append_drop
def o_:type_of% @Nat.lt_or_ge:=@Nat.lt_or_ge
def n_:type_of% @Nat.mul_add:=@Nat.mul_add
def m_:type_of% @List.nil_sublist:=@List.nil_sublist
def l_:type_of% @Nat.lt_of_le_of_lt:=@Nat.lt_of_le_of_lt
def k_:type_of% @Nat.lt_of_lt_of_le:=@Nat.lt_of_lt_of_le
def j_:type_of% @List.length_drop:=@List.length_drop
def i_:type_of% @Nat.pow_mul:=@Nat.pow_mul
def h_:type_of% @List.not_mem_nil:=@List.not_mem_nil
def g_:type_of% @List.ext_getElem?:=@List.ext_getElem?
def f_:type_of% @List.getElem?_range:=@List.getElem?_range
def d_:type_of% @List.length_set:=@List.length_set
def c_:type_of% @Nat.mul_le_mul_right:=@Nat.mul_le_mul_right
def Z9:type_of% @Nat.mul_assoc:=@Nat.mul_assoc
def Y9:type_of% @List.getElem?_mapIdx:=@List.getElem?_mapIdx
def X9:type_of% @List.getD_eq_getElem?_getD:=@List.getD_eq_getElem?_getD
def W9:type_of% @List.any_eq_true:=@List.any_eq_true
def V9:type_of% @List.length_range:=@List.length_range
def U9:type_of% @Array.getD_eq_getD_getElem?:=@Array.getD_eq_getD_getElem?
def T9:type_of% @Nat.div_add_mod:=@Nat.div_add_mod
def S9:type_of% @List.getElem?_append_right:=@List.getElem?_append_right
def R9:type_of% @List.map_nil:=@List.map_nil
def Q9:type_of% @List.length_replicate:=@List.length_replicate
def P9:type_of% @Nat.min_eq_left:=@Nat.min_eq_left
def O9:type_of% @of_decide_eq_true:=@of_decide_eq_true
def N9:type_of% @Nat.div_lt_iff_lt_mul:=@Nat.div_lt_iff_lt_mul
def M9:type_of% @List.mem_append_left:=@List.mem_append_left
def L9:type_of% @List.getElem?_set:=@List.getElem?_set
def K9:type_of% @Nat.add_mul_div_left:=@Nat.add_mul_div_left
def J9:type_of% @Option.getD_some:=@Option.getD_some
def I9:type_of% @Nat.add_zero:=@Nat.add_zero
def H9:type_of% @Nat.succ_mul:=@Nat.succ_mul
def G9:type_of% @Nat.mul_le_mul:=@Nat.mul_le_mul
def F9:type_of% @Int.natCast_mul:=@Int.natCast_mul
def E9:type_of% @List.any_eq_false:=@List.any_eq_false
def D9:type_of% @List.mem_filter:=@List.mem_filter
def C9:type_of% @List.pairwise_cons:=@List.pairwise_cons
def B9:type_of% @List.map_set:=@List.map_set
def A9:type_of% @List.range_succ:=@List.range_succ
def z9:type_of% @List.map_congr_left:=@List.map_congr_left
def y9:type_of% @Option.map_eq_some_iff:=@Option.map_eq_some_iff
def x9:type_of% @List.mem_of_mem_take:=@List.mem_of_mem_take
def u9:type_of% @List.mem_append_right:=@List.mem_append_right
def q9:type_of% @Int.natAbs_mul:=@Int.natAbs_mul
def p9:type_of% @Option.map_some:=@Option.map_some
def o9:type_of% @Nat.mul_succ:=@Nat.mul_succ
def n9:type_of% @List.getElem?_zipWith:=@List.getElem?_zipWith
def m9:type_of% @List.getElem?_append_left:=@List.getElem?_append_left
def l9:type_of% @Nat.div_div_eq_div_mul:=@Nat.div_div_eq_div_mul
def k9:type_of% @beq_iff_eq:=@beq_iff_eq
def j9:type_of% @Bool.and_eq_true_iff:=@Bool.and_eq_true_iff
def g9:type_of% @Option.some.injEq:=@Option.some.injEq
def c9:type_of% @List.getElem?_drop:=@List.getElem?_drop
def Z8:type_of% @List.mem_filterMap:=@List.mem_filterMap
def Y8:type_of% @List.take_zero:=@List.take_zero
def X8:type_of% @Int.sign_eq_neg_one_of_neg:=@Int.sign_eq_neg_one_of_neg
def W8:type_of% @Nat.add_mul_mod_self_left:=@Nat.add_mul_mod_self_left
def V8:type_of% @Int.natCast_add:=@Int.natCast_add
def U8:type_of% @List.getElem?_eq_getElem:=@List.getElem?_eq_getElem
def T8:type_of% @Int.sign_eq_one_of_pos:=@Int.sign_eq_one_of_pos
def S8:type_of% @List.foldl_cons:=@List.foldl_cons
def R8:type_of% @List.mem_or_eq_of_mem_set:=@List.mem_or_eq_of_mem_set
def Q8:type_of% @List.eq_nil_of_length_eq_zero:=@List.eq_nil_of_length_eq_zero
def P8:type_of% @List.drop_of_length_le:=@List.drop_of_length_le
def O8:type_of% @Nat.add_comm:=@Nat.add_comm
def N8:type_of% @Nat.mul_lt_mul_of_pos_right:=@Nat.mul_lt_mul_of_pos_right
def M8:type_of% @Int.toNat_natCast:=@Int.toNat_natCast
def L8:type_of% @Classical.byContradiction:=@Classical.byContradiction
def K8:type_of% @List.drop_eq_getElem_cons:=@List.drop_eq_getElem_cons
def J8:type_of% @List.getElem?_toArray:=@List.getElem?_toArray
def I8:type_of% @Nat.add_mul:=@Nat.add_mul
def H8:type_of% @Nat.div_le_self:=@Nat.div_le_self
def G8:type_of% @Nat.eq_zero_or_pos:=@Nat.eq_zero_or_pos
def F8:type_of% @List.set_append_right:=@List.set_append_right
def E8:type_of% @List.mem_flatMap:=@List.mem_flatMap
def D8:type_of% @Int.natAbs_pow:=@Int.natAbs_pow
def C8:type_of% @Nat.one_mul:=@Nat.one_mul
def B8:type_of% @List.any_append:=@List.any_append
def A8:type_of% @Nat.mul_zero:=@Nat.mul_zero
def z8:type_of% @List.getElem?_reverse:=@List.getElem?_reverse
def y8:type_of% @List.mem_reverse:=@List.mem_reverse
def x8:type_of% @Dyadic.one_mul:=@Dyadic.one_mul
def q8:type_of% @List.length_mapIdx:=@List.length_mapIdx
def p8:type_of% @List.foldl_append:=@List.foldl_append
def o8:type_of% @List.getElem?_take:=@List.getElem?_take
def n8:type_of% @Bool.not_eq_true':=@Bool.not_eq_true'
def m8:type_of% @List.reverse_cons:=@List.reverse_cons
def l8:type_of% @List.flatMap_cons:=@List.flatMap_cons
def k8:type_of% @List.any_cons:=@List.any_cons
def j8:type_of% @Array.all_eq_true':=@Array.all_eq_true'
def g8:type_of% @Dyadic.zero_add:=@Dyadic.zero_add
def c8:type_of% @List.flatMap_append:=@List.flatMap_append
def a8:type_of% @List.find?_eq_none:=@List.find?_eq_none
def Z7:type_of% @Classical.not_not:=@Classical.not_not
def Y7:type_of% @Nat.div_one:=@Nat.div_one
def X7:type_of% @List.take_succ_cons:=@List.take_succ_cons
def W7:type_of% @List.nodup_cons:=@List.nodup_cons
def V7:type_of% @Bool.or_eq_true:=@Bool.or_eq_true
def U7:type_of% @Dyadic.add_zero:=@Dyadic.add_zero
def T7:type_of% @List.getElem?_zip_eq_some:=@List.getElem?_zip_eq_some
def S7:type_of% @List.replicate_succ:=@List.replicate_succ
def R7:type_of% @List.length_zipWith:=@List.length_zipWith
def Q7:type_of% @Nat.mul_pos:=@Nat.mul_pos
def P7:type_of% @List.filter_append:=@List.filter_append
def O7:type_of% @List.any_nil:=@List.any_nil
def N7:type_of% @List.map_singleton:=@List.map_singleton
def M7:type_of% @Int.neg_neg:=@Int.neg_neg
def L7:type_of% @Bool.true_and:=@Bool.true_and
def K7:type_of% @List.filterMap_cons:=@List.filterMap_cons
def J7:type_of% @Int.mul_neg:=@Int.mul_neg
def I7:type_of% @List.length_eq_zero_iff:=@List.length_eq_zero_iff
def H7:type_of% @List.drop_zero:=@List.drop_zero
def G7:type_of% @Int.natCast_nonneg:=@Int.natCast_nonneg
def F7:type_of% @List.drop_drop:=@List.drop_drop
def E7:type_of% @Int.natAbs_ediv_le_natAbs:=@Int.natAbs_ediv_le_natAbs
def D7:type_of% @Dyadic.pow_zero:=@Dyadic.pow_zero
def C7:type_of% @Nat.zero_mul:=@Nat.zero_mul
def B7:type_of% @List.length_nil:=@List.length_nil
def A7:type_of% @Int.le_refl:=@Int.le_refl
def z7:type_of% @List.size_toArray:=@List.size_toArray
def y7:type_of% @List.perm_append_comm:=@List.perm_append_comm
def x7:type_of% @Nat.pow_zero:=@Nat.pow_zero
def u7:type_of% @Dyadic.pow_succ:=@Dyadic.pow_succ
def q7:type_of% @List.getElem?_cons_zero:=@List.getElem?_cons_zero
def p7:type_of% @List.getElem?_cons_succ:=@List.getElem?_cons_succ
def o7:type_of% @Bool.not_true:=@Bool.not_true
def n7:type_of% @Nat.add_assoc:=@Nat.add_assoc
def m7:type_of% @Nat.mod_add_div:=@Nat.mod_add_div
def l7:type_of% @Array.ext':=@Array.ext'
def k7:type_of% @Array.getElem?_eq_getElem:=@Array.getElem?_eq_getElem
def j7:type_of% @List.exists_cons_of_ne_nil:=@List.exists_cons_of_ne_nil
def g7:type_of% @List.reverse_append:=@List.reverse_append
def a7:type_of% @Int.lt_trichotomy:=@Int.lt_trichotomy
def Z6:type_of% @List.sum_cons:=@List.sum_cons
def Y6:type_of% @Bool.false_and:=@Bool.false_and
def X6:type_of% @List.take_length:=@List.take_length
def W6:type_of% @List.mem_map_of_mem:=@List.mem_map_of_mem
def V6:type_of% @List.map_drop:=@List.map_drop
def U6:type_of% @List.reverse_reverse:=@List.reverse_reverse
def T6:type_of% @decide_eq_false_iff_not:=@decide_eq_false_iff_not
def S6:type_of% @Nat.mul_left_comm:=@Nat.mul_left_comm
def R6:type_of% @List.cons.injEq:=@List.cons.injEq
def Q6:type_of% @UInt8.toNat_inj:=@UInt8.toNat_inj
def P6:type_of% @Nat.lt_of_not_le:=@Nat.lt_of_not_le
def O6:type_of% @Bool.eq_false_iff:=@Bool.eq_false_iff
def N6:type_of% @Dyadic.mul_zero:=@Dyadic.mul_zero
def M6:type_of% @Int.mul_comm:=@Int.mul_comm
def L6:type_of% @List.map_id':=@List.map_id'
def K6:type_of% @List.find?_some:=@List.find?_some
def J6:type_of% @List.mem_of_mem_drop:=@List.mem_of_mem_drop
def I6:type_of% @List.Pairwise.nil:=@List.Pairwise.nil
def H6:type_of% @Nat.le_of_not_lt:=@Nat.le_of_not_lt
def G6:type_of% @Nat.mul_lt_mul'':=@Nat.mul_lt_mul''
def F6:type_of% @List.all_append:=@List.all_append
def E6:type_of% @List.length_filter_le:=@List.length_filter_le
def D6:type_of% @List.replicate_zero:=@List.replicate_zero
def C6:type_of% @Int.eq_ofNat_of_zero_le:=@Int.eq_ofNat_of_zero_le
def B6:type_of% @List.sublist_append_left:=@List.sublist_append_left
def A6:type_of% @Int.sign_eq_zero_iff_zero:=@Int.sign_eq_zero_iff_zero
def z6:type_of% @Bool.false_eq_true:=@Bool.false_eq_true
def y6:type_of% @List.filter_eq_self:=@List.filter_eq_self
def x6:type_of% @List.set_eq_take_append_cons_drop:=@List.set_eq_take_append_cons_drop
def u6:type_of% @Option.bind_some:=@Option.bind_some
def q6:type_of% @Int.natCast_pow:=@Int.natCast_pow
def p6:type_of% @UInt8.toNat_ofNat':=@UInt8.toNat_ofNat'
def o6:type_of% @List.countP_singleton:=@List.countP_singleton
def n6:type_of% @List.pairwise_append:=@List.pairwise_append
def m6:type_of% @List.contains_iff_mem:=@List.contains_iff_mem
def l6:type_of% @List.filterMap_append:=@List.filterMap_append
def k6:type_of% @Array.getElem?_eq_none:=@Array.getElem?_eq_none
def j6:type_of% @List.filter_eq_nil_iff:=@List.filter_eq_nil_iff
def g6:type_of% @List.drop_eq_nil_of_le:=@List.drop_eq_nil_of_le
def c6:type_of% @List.filter_cons_of_neg:=@List.filter_cons_of_neg
def a6:type_of% @Nat.le_mul_of_pos_right:=@Nat.le_mul_of_pos_right
def Z5:type_of% @Bool.and_eq_false_iff:=@Bool.and_eq_false_iff
def Y5:type_of% @List.getElem?_eq_none_iff:=@List.getElem?_eq_none_iff
def X5:type_of% @List.getElem?_replicate:=@List.getElem?_replicate
def W5:type_of% @List.pairwise_singleton:=@List.pairwise_singleton
def V5:type_of% @List.find?_cons_of_pos:=@List.find?_cons_of_pos
def U5:type_of% @List.flatMap_singleton:=@List.flatMap_singleton
def T5:type_of% @Array.getElem?_replicate:=@Array.getElem?_replicate
def zL0:List Nat:=[23,24,25,26,27,28,29,30,31,32,33,34,35,36,37,38,39,40,41,42,43,44,45,46,47,48,49,50,51,52,53]
def Z'{p:Prop}(h:p:=by omega):p:=h
def V'{p:Prop}(h:p:=by decide):p:=h
def U'{p:Prop}(h:p:=by kernel_rfl):p:=h
def JD{P Q:Prop}(p:P)(h:P->Q:=by intro kQ;exact qN (Nc rfl (Mc (vs:=[_,_,_]) pa.out (I.Ra (i:=0) (n:=3) rfl rfl) rfl) Xd) kQ):Q:=h p
def Yt{P Q:Prop}(p:P)(h:P->Q:=by intro kQ;exact dP (Nc rfl (Mc (vs:=[_,_]) pa.out (I.Ra (i:=0) (n:=2) rfl rfl) rfl) (Ig (ji rfl) Xd)) kQ):Q:=h p
def EP{P Q:Prop}(p:P)(h:P->Q:=by intro kQ;exact sv (Ka (vs:=[_,_,_,_]) pa.out rfl ((hr.ext I.below).recAt TR.len C) rfl) kQ):Q:=h p
def yY{P Q:Prop}(p:P)(h:P->Q:=by intro kQ;exact Zh (i:=9) rfl (λU Z hj hR=>(show U 27=Value.bool _ from hR.2.1)) (λU Z hj hR=>La fi (qa (show U 29=Value.agg (List.toArray _) from hR.1) Wa)) (λZ hj=>z _) kQ):Q:=h p
def EF{P Q:Prop}(p:P)(h:P->Q:=by intro kQ;exact qN (Nc rfl (Mc (vs:=[_,_]) pa.out (I.Ra (i:=0) (n:=2) rfl rfl) rfl) Xd) kQ):Q:=h p
def Cr{P Q:Prop}(p:P)(h:P->Q:=by intro kQ;exact dP (Nc rfl (Mc (vs:=[_,_]) pa.out (I.Ra (i:=2) (n:=2) rfl rfl) rfl) (Ig (ji rfl) Xd)) kQ):Q:=h p
def yL{P Q:Prop}(p:P)(h:P->Q:=by intro kQ;exact dP (Nc rfl (Mc (vs:=[_,_]) pa.out (I.Ra (i:=1) (n:=2) rfl rfl) rfl) (Ig (ji rfl) Xd)) kQ):Q:=h p
def Nm{P Q:Prop}(p:P)(h:P->Q:=by intro kQ;exact Sb I (cs:=[_,_,_]) Qa.out pa.out (Eb (Hd rfl) ae) rfl rfl V' V' V' rfl V' kQ):Q:=h p
def yw{P Q:Prop}(p:P)(h:P->Q:=by intro kQ;exact mb I (i:=2) rfl rfl rfl (I.ma (i:=0) rfl) Qa.out pa.out rfl V' (by first|rfl|exact Nb _|exact xb _|exact Da _|exact Ia NR.one _) Z' Z' V' kQ):Q:=h p
def vF{P Q:Prop}(p:P)(h:P->Q:=by intro kQ;exact Sb I (cs:=[_,_,_,_]) Qa.out pa.out (Eb (Hd rfl) ae) rfl rfl V' V' V' rfl V' kQ):Q:=h p
def Er{P Q:Prop}(p:P)(h:P->Q:=by intro kQ;exact mb I (i:=1) rfl rfl rfl (I.ma (i:=0) rfl) Qa.out pa.out rfl V' (by first|rfl|exact Nb _|exact xb _|exact Da _|exact Ia NR.one _) Z' Z' V' kQ):Q:=h p
def eG{P Q:Prop}(p:P)(h:P->Q:=by intro kQ;exact sv (Ba pa.out rfl (I.Rc (i:=0) rfl (by first|assumption|(simp only[X_];assumption)))) kQ):Q:=h p
def wz{P Q:Prop}(p:P)(h:P->Q:=by intro kQ;exact qN (Nc rfl (Mc (vs:=[_,_]) pa.out (I.Ra (i:=1) (n:=2) rfl rfl) rfl) Xd) kQ):Q:=h p
def aZ{P Q:Prop}(p:P)(h:P->Q:=by intro kQ;exact⟨⟨i+1,Z',rfl,by rw[ja o,B8,X,k8,O7,a];rfl,I⟩,by show n-(i+1)<n-i;omega,kQ⟩):Q:=h p
def QZ{P Q:Prop}(p:P)(h:P->Q:=by intro kQ;exact ub rfl rfl V' (abx Qa.out pa.size rfl rfl rfl rfl (l:=a) (h:=a+1) (q:=n) rfl Z' rfl Z' Z' Z' Z') kQ):Q:=h p
def iY{P Q:Prop}(p:P)(h:P->Q:=by intro kQ;exact Ma (i:=2) (λU Z hj hR=>Rh (h:=a) Qa.out pa.size (show U 20=Value.slice _ _ _ from hR.1) (show U 21=Value.int _ _ from hR.2.1) Z' Z') kQ):Q:=h p
def QY{P Q:Prop}(p:P)(h:P->Q:=by intro kQ;exact Ma (i:=5) (λU Z hj hR=>Nf (l:=(a+1)) Qa.out pa.size (show U 23=Value.slice _ _ _ from hR.1) (show U 24=Value.int _ _ from hR.2.1) Z' Z' Z') kQ):Q:=h p
def Wz{P Q:Prop}(p:P)(h:P->Q:=by intro kQ;exact sv (vw Qa.out Qa.out rfl (by first|assumption|omega)) kQ):Q:=h p
def dA{P Q:Prop}(p:P)(h:P->Q:=by intro kQ;exact sv (Ba pa.out rfl ((H.ext I.below).Yr (by assumption))) kQ):Q:=h p
def CS{P Q:Prop}(p:P)(h:P->Q:=by intro kQ;exact sv (jH (b:=1) rfl rfl (by first|assumption|omega) (by first|assumption|omega)) kQ):Q:=h p
def IU{P Q:Prop}(p:P)(h:P->Q:=by intro kQ;exact Xa I (i:=0) (vs:=[_]) rfl rfl (Xb rfl) rfl pa.out rfl (by rw[o];omega) rfl kQ):Q:=h p
def ZS{P Q:Prop}(p:P)(h:P->Q:=by intro kQ;exact Xa I (i:=3) (vs:=[_,_,_]) rfl rfl (Hd rfl) rfl pa.out rfl Z' rfl kQ):Q:=h p
def ow{P Q:Prop}(p:P)(h:P->Q:=by intro kQ;exact Hh (E _ I.below) la.out rfl rfl V' kQ):Q:=h p
def Bu{P Q:Prop}(p:P)(h:P->Q:=by intro kQ;exact sv (fJ rfl (qa (nJ rfl) Wa)) kQ):Q:=h p
def HA{P Q:Prop}(p:P)(h:P->Q:=by intro kQ;exact sv (ao (s:=32) (m:=4294967296) rfl rfl V' V') kQ):Q:=h p
def BU{P Q:Prop}(p:P)(h:P->Q:=by intro kQ;exact sv (jH (b:=4294967295) rfl rfl (by first|assumption|omega) (by first|assumption|omega)) kQ):Q:=h p
def pP{P Q:Prop}(p:P)(h:P->Q:=by intro kQ;exact dP (Nc rfl (Mc (vs:=[_,_]) pa.out (I.Ra (i:=3) (n:=2) rfl rfl) rfl) (Ig (ji rfl) Xd)) kQ):Q:=h p
def Vz{P Q:Prop}(p:P)(h:P->Q:=by intro kQ;exact sv (Ba pa.out rfl ((I.below.cell (Wl hp)).trans hp)) kQ):Q:=h p
def RZ{P Q:Prop}(p:P)(h:P->Q:=by intro kQ;exact WB (i:=18) rfl (λU Z hj hR=>(show U 33=Value.bool _ from hR.2.2.1)) (λU Z hj hR=>pD (show U 36=Value.agg (List.toArray _) from hR.1) (show U 38=Value.agg (List.toArray _) from hR.2.1) (by first|assumption|rfl)) kQ):Q:=h p
def bK{P Q:Prop}(p:P)(h:P->Q:=by intro kQ;exact sv (pb (k:=j) Qa.out pa.size Qk rfl Z' Z') kQ):Q:=h p
def IA{P Q:Prop}(p:P)(h:P->Q:=by intro kQ;exact Sb I (cs:=[_]) Qa.out pa.out (Eb (Xb rfl) ae) rfl rfl V' V' V' rfl V' kQ):Q:=h p
def XE{P Q:Prop}(p:P)(h:P->Q:=by intro kQ;exact qd I (Lp _ _ _ _ _ _ (ra 18446744073709551616 (bN a)) (ra 18446744073709551616 (bN b)) _ (I.ma (i:=1) rfl) (I.ma (i:=0) rfl) (Pf _) (Pf _) (I.ve (i:=1) rfl) (I.ve (i:=0) rfl) Z' Z') rfl kQ):Q:=h p
def SL{P Q:Prop}(p:P)(h:P->Q:=by intro kQ;exact sv (Pj rfl rfl (by first|rfl|assumption|decide)) kQ):Q:=h p
def YL{P Q:Prop}(p:P)(h:P->Q:=by intro kQ;exact sv (Vj rfl rfl (by first|assumption|decide)) kQ):Q:=h p
def LK{P Q:Prop}(p:P)(h:P->Q:=by intro kQ;exact sv (kV Qa.out rfl rfl (by first|rfl|assumption|decide)) kQ):Q:=h p
def RD{P Q:Prop}(p:P)(h:P->Q:=by intro kQ;exact Sb I (cs:=[_,_,_,_]) Qa.out pa.out (Eb (Hd rfl) (Eb (Hd rfl) ae)) rfl rfl V' V' V' rfl V' kQ):Q:=h p
def MJ{P Q:Prop}(p:P)(h:P->Q:=by intro kQ;exact Ma (i:=3) (λU Z hj hR=>sH (show U 20=Value.int _ _ from hR.1) Z' Z') kQ):Q:=h p
def jL{P Q:Prop}(p:P)(h:P->Q:=by intro kQ;exact Ja (i:=9) (Ob _ 28 _) Ob.ext (λU Z hj hR=>Pg pa.out hj.bl (λv q h F=>⟨F,h⟩)) kQ):Q:=h p
def ZQ{P Q:Prop}(p:P)(h:P->Q:=by intro kQ;exact Ca (l:=[.agg #[.bool true,.string a],.int .i64 (-(m:Int))]) func198 kQ):Q:=h p
def vT{P Q:Prop}(p:P)(h:P->Q:=by intro kQ;exact dC (λ_ hj=>Yc a _ (S.hp hj.hp) Z' Z' Z') kQ):Q:=h p
def jr{P Q:Prop}(p:P)(h:P->Q:=by intro kQ;exact Sb I (cs:=[_,_,_,_,_,_]) Qa.out pa.out (Eb (Hd rfl) (Eb (Hd rfl) ae)) rfl rfl V' V' V' rfl V' kQ):Q:=h p
def ZF{P Q:Prop}(p:P)(h:P->Q:=by intro kQ;exact qd I (Ai A n c j xs _ (C.ext I.below) F Z' Z') rfl kQ):Q:=h p
def IE{P Q:Prop}(p:P)(h:P->Q:=by intro kQ;exact qd I (Ai B m c' j ys _ (hy.ext I.below) S Z' Z') rfl kQ):Q:=h p
def qG{P Q:Prop}(p:P)(h:P->Q:=by intro kQ;exact Ee (n:=n) I rfl rfl Z' Z' Qa.out pa.out rfl Z' Z' V' kQ):Q:=h p
def cR{P Q:Prop}(p:P)(h:P->Q:=by intro kQ;exact qd I (qf _ _ _ (ra 2 (bN m)) _ (I.ma (i:=0) rfl) (aj _) (I.ve (i:=0) rfl) Z') rfl kQ):Q:=h p
def TJ{P Q:Prop}(p:P)(h:P->Q:=by intro kQ;exact dC (λ_ hj=>Kn a _ Z' Z' Z') kQ):Q:=h p
def xM{P Q:Prop}(p:P)(h:P->Q:=by intro kQ;exact qd I (Kn b _ Z' Z' Z') rfl kQ):Q:=h p
def QT{P Q:Prop}(p:P)(h:P->Q:=by intro kQ;exact sv (Ka (vs:=[_,_,_,_]) pa.out rfl ((H.ext I.below).recAt TR.len s) rfl) kQ):Q:=h p
def XR{P Q:Prop}(p:P)(h:P->Q:=by intro kQ;exact sv (Ka (vs:=[_,_,_,_]) pa.out rfl ((G.ext I.below).recAt TR.len P) rfl) kQ):Q:=h p
def JF{P Q:Prop}(p:P)(h:P->Q:=by intro kQ;exact Mx I Qa.out pa.out V' kQ):Q:=h p
def US{P Q:Prop}(p:P)(h:P->Q:=by intro kQ;exact Xa I (i:=1) (vs:=[_]) rfl rfl (Xb rfl) rfl pa.out rfl Z' rfl kQ):Q:=h p
def PK{P Q:Prop}(p:P)(h:P->Q:=by intro kQ;exact qd I (ej 1 _ (S.hp I) Z' Z') rfl kQ):Q:=h p
def FM{P Q:Prop}(p:P)(h:P->Q:=by intro kQ;exact mb I (i:=5) rfl rfl rfl (I.ma (i:=0) rfl) Qa.out pa.out rfl V' (by first|rfl|exact Nb _|exact xb _|exact Da _|exact Ia NR.one _) Z' Z' V' kQ):Q:=h p
def bU{P Q:Prop}(p:P)(h:P->Q:=by intro kQ;exact qN (Nc rfl (Mc (vs:=[_,_]) pa.out (I.Ra (i:=2) (n:=2) rfl rfl) rfl) Xd) kQ):Q:=h p
def fM{P Q:Prop}(p:P)(h:P->Q:=by intro kQ;exact Sk [2] [0,1,0,3,15,31] 3 [[(4,none)],[(48,some 0)],[(5,none)]] [(2,50),(1,49),(0,48)] [([],3,[(1,49),(0,48)]),([2],2,[(2,50),(1,49),(0,48)])] I mixed U' U' V' kQ):Q:=h p
def Dk{P Q:Prop}(p:P)(h:P->Q:=by intro kQ;exact Sb I (cs:=[_,_]) Qa.out pa.out (Eb (Hd rfl) ae) rfl rfl V' V' V' rfl V' kQ):Q:=h p
def WQ{P Q:Prop}(p:P)(h:P->Q:=by intro kQ;exact lW I (il L.A L.n L.a L.ds _ (Y.dg.ext I.below) Z') rfl kQ):Q:=h p
def SK{P Q:Prop}(p:P)(h:P->Q:=by intro kQ;exact Sb I (cs:=[_,_,_,_,_,_]) Qa.out pa.out (Eb (Hd rfl) ae) rfl rfl V' V' V' rfl V' kQ):Q:=h p
def vE{P Q:Prop}(p:P)(h:P->Q:=by intro kQ;exact sv (Ba pa.out rfl ((H.ext I.below).Yr a)) kQ):Q:=h p
def oE{P Q:Prop}(p:P)(h:P->Q:=by intro kQ;exact mb I (i:=3) rfl rfl rfl (I.ma (i:=0) rfl) Qa.out pa.out rfl V' (by first|rfl|exact Nb _|exact xb _|exact Da _|exact Ia NR.one _) Z' Z' V' kQ):Q:=h p
def mY{P Q:Prop}(p:P)(h:P->Q:=by intro kQ;exact mb I (i:=0) rfl rfl rfl (f69) Qa.out pa.out rfl V' (by first|rfl|exact Nb _|exact xb _|exact Da _|exact Ia NR.one _) Z' Z' V' kQ):Q:=h p
def pG{P Q:Prop}(p:P)(h:P->Q:=by intro kQ;exact Sb I (cs:=[_]) Qa.out pa.out (Eb (dp rfl) ae) rfl rfl V' V' V' rfl V' kQ):Q:=h p
def En{P Q:Prop}(p:P)(h:P->Q:=by intro kQ;exact sv (Lc (k:=k) Qa.out pa.size rfl rfl Z' Z') kQ):Q:=h p
def jM{P O Q:Prop}(p:P)(o:O)(h:P->O->Q:=by intro kQ lQ;exact At (i:=3) (i2:=17) U' rfl rfl kQ lQ):Q:=h p o
def Gz{P Q:Prop}(p:P)(h:P->Q:=by intro kQ;exact je (i:=17) U' rfl kQ):Q:=h p
def Qw{P Q:Prop}(p:P)(h:P->Q:=by intro kQ;exact uo (λ_ hj=>u.ld (hj.hp.sub (.cons _ (.cons _ (P_ _))))) kQ):Q:=h p
def pU{P Q:Prop}(p:P)(h:P->Q:=by intro kQ;exact mb I (i:=4) rfl rfl rfl (I.ma (i:=0) rfl) Qa.out pa.out rfl V' (by first|rfl|exact Nb _|exact xb _|exact Da _|exact Ia NR.one _) Z' Z' V' kQ):Q:=h p
def DP{P Q:Prop}(p:P)(h:P->Q:=by intro kQ;exact Sb I (cs:=[_,_,_,_,_]) Qa.out pa.out (Eb (Hd rfl) ae) rfl rfl V' V' V' rfl V' kQ):Q:=h p
def lR{P Q:Prop}(p:P)(h:P->Q:=by intro kQ;exact sv (Ba pa.out rfl (((H.ext I.below).recAt PX.len u).cell (i:=1) (v:=.slice A E B) rfl)) kQ):Q:=h p
def oP{P Q:Prop}(p:P)(h:P->Q:=by intro kQ;exact sv (Ba pa.out rfl (((H.ext I.below).recAt PX.len u).cell (i:=1) (v:=.slice (some at2) E B) rfl)) kQ):Q:=h p
def qz{P Q:Prop}(p:P)(h:P->Q:=by intro kQ;exact qd I (ng 2 _ V' V') rfl kQ):Q:=h p
def wU{P Q:Prop}(p:P)(h:P->Q:=by intro kQ;exact te (Jl (0) 0 1 K3 _ V' V' V' (by decide+kernel)) rfl kQ):Q:=h p
def nS{P Q:Prop}(p:P)(h:P->Q:=by intro kQ;exact Fj [_,_,_] (λ_ hj=>((((H.ext hj.hp.below).recAt SR.len K).drop 3).take 3)) kQ):Q:=h p
def BP{P Q:Prop}(p:P)(h:P->Q:=by intro kQ;exact Fj [_,_,_] (λ_ hj=>((((G.ext hj.hp.below).recAt SR.len S).drop 0).take 3)) kQ):Q:=h p
def HM{P Q:Prop}(p:P)(h:P->Q:=by intro kQ;exact na (cF (Fb (Ep (Za (Hb (mI kQ))))))):Q:=h p
def QU{P Q:Prop}(p:P)(h:P->Q:=by intro kQ;exact Wg (na (cF (Xh (Ie (Ie (Ej (Za (sr (mL (xi kQ))))))))))):Q:=h p
def XY{P Q:Prop}(p:P)(h:P->Q:=by intro kQ;exact Zh (i:=8) rfl (λU Z hj hR=>(show U 226=Value.bool _ from hR.2.1)) (λU Z hj hR=>La fi (qa (show U 227=Value.agg (List.toArray _) from hR.1) Wa)) (λZ hj=>hs0 _) kQ):Q:=h p
def cY{p:Prop}(h:p:=by
  refine Ze I 1 [_,_] ?_;intro ws I;replace I:Hp _ (_::.blk _ _ [_,_] _::_) _:=I;exact zW3):p:=h
def U0{p:Prop}(h:p:=by
  refine⟨⟨i+1,Z',rfl,I⟩,by show xs.length-(i+1)<xs.length-i;omega, ?_⟩;exact Wb):p:=h
def kZ{p:Prop}(h:p:=by
  refine fa ?_;refine sv (Xk (b:=1) rfl rfl Z') ?_;refine fa ?_;refine sv (Cf rfl rfl) ?_;refine fa ?_;rw[S,p];refine⟨⟨rfl,I⟩, ?_⟩;exact Wb):p:=h
def MZ{p:Prop}(h:p:=by
  refine Kc ?_;refine je (i:=2) U' rfl ?_;refine Ze I 3 [_,_] ?_;intro ws I;replace I:Hp _ (_::_::_::.blk _ _ [_,_] _::_) _:=I;exact F1):p:=h
def jY{p:Prop}(h:p:=by
  refine Xa I (i:=3) (vs:=[_]) rfl rfl (dp rfl) rfl pa.out rfl Z' rfl ?_;intro ws I;simp only[j',t_] at I;exact zW2):p:=h
def qY{p:Prop}(h:p:=by
  refine Ze I 1 [_,_] ?_;intro ws I;replace I:Hp _ (_::.blk _ _ [_,_] _::_) _:=I;refine Kc ?_;refine je (i:=2) U' rfl ?_;refine rk I 0 [_,_] ?_;exact zW3):p:=h
def KY{p:Prop}(h:p:=by
  refine fa ?_;refine sv (Xk (b:=1) rfl rfl Z') ?_;refine fa ?_;refine sv (Cf rfl rfl) ?_;refine fa ?_;rw[S,f];refine⟨⟨q-1,d+j,rfl,rfl,x,T,I⟩,by show((q-1:Nat):Int).toNat<(q:Int).toNat;omega, ?_⟩;exact Wb):p:=h
def y2{p:Prop}(h:p:=by
  refine Ca func129 ?_;refine yb ?_;intro T x I D y I;refine cd I (u _) ?_;intro B I;refine fa ?_;refine Bu ?_;refine fa ?_;refine cd I (E _ _ I.below (I.se (i:=1) (o:=0) rfl rfl)) ?_;intro d I;refine Bb ?_;intro ws I;exact tM):p:=h
def WZ{p:Prop}(h:p:=by
  exact⟨_,_,by rw[b],by rw[b,L];exact I.sub (O' _ (m_ _))⟩):p:=h
def O0{p:Prop}(h:p:=by
  refine Ze I 2 [_,_] ?_;intro ws I;replace I:Hp _ (_::_::.blk _ _ [_,_] _::_) _:=I;exact zW5):p:=h
def mZ{p:Prop}(h:p:=by
  refine⟨⟨i+1,Z',rfl,by rw[e];exact I⟩,by show n-1-(i+1)<n-1-i;omega, ?_⟩;exact Wb):p:=h
def wQ{p:Prop}(h:p:=by
  refine aad ?_;intro D B I E I;refine CR ?_;intro ws I;exact NX):p:=h
def GY{p:Prop}(h:p:=by
  (first|refine gP ?_|refine FH ?_)
  refine FH ?_;refine na (cF (Fb (Za ?_)));refine⟨I, ?_⟩;exact GP):p:=h
theorem vK{p:Prop}(h:p:=by
  (unhygienic intros)
  refine afh ?_;intro I;exact Wb):p:=h
def yZ{p:Prop}(h:p:=by
  refine⟨⟨i,_,_,Z',rfl,by rw[d1];rfl,by rw[d1];exact I⟩,by show((i:Int)-1+1).toNat<((i:Int)+1).toNat;omega, ?_⟩;exact Wb):p:=h
def qZ{p:Prop}(h:p:=by
  refine Am ?_;intro ws I ws I ws I;refine qN (Nc rfl (Mc (vs:=[_,_,_,_,_]) pa.out (I.Ra (i:=1) (n:=5) rfl rfl) rfl) Xd) ?_;exact⟨rfl,I.below⟩):p:=h
def uY{p:Prop}(h:p:=by
  refine Kc ?_;refine je (i:=2) U' rfl ?_;refine Ze I 4 [_,_] ?_;intro ws I;replace I:Hp _ (_::_::_::_::.blk _ _ [_,_] _::_) _:=I;exact zW6):p:=h
def sQ{p:Prop}(h:p:=by
  simp only[j'] at I;rw[U_] at I |-;rw[F'] at I;exact jE):p:=h
def J2{p:Prop}(h:p:=by
  refine Ze I 2 [_,_] ?_;intro ws I;replace I:Hp _ (_::_::.blk _ _ [_,_] _::_) _:=I;refine Kc ?_;refine je (i:=2) U' rfl ?_;refine rk I 1 [_,_] ?_;exact zW5):p:=h
theorem G0{p:Prop}(h:p:=by
  rw[P' H] at h;refine aaL ?_;intro K w12 I ws I;refine Ja (i:=10) (Is (.pointer (some (u.add (a*1))))) (Is.ext) ?_ ?_
  .exact abd
  refine afU ?_;(unhygienic intros)
  exact Wb):p:=h
def FY{p:Prop}(h:p:=by
  refine LY ?_;intro R b I ws I Y I;generalize a.i.sign=g at*;refine fa ?_;refine⟨⟨i+1,g,Z',rfl,rfl,e,Z',Z',I.sub (m_ _)⟩,by show n-(i+1)<n-i;omega, ?_⟩;exact Wb):p:=h
theorem XZ{p:Prop}(h:p:=by
  refine Kc ?_;refine je (i:=8) U' rfl ?_;refine Hh (h _ (hT.hp I)) fi rfl rfl V' ?_;rintro t w41 ⟨rfl,M⟩;refine⟨_,rfl, ?_⟩;replace I:=I.ext M;refine afd ?_;(unhygienic intros)
  exact Wb):p:=h
def tY{p:Prop}(h:p:=by
  refine HM ?_;refine Gi (aI (Zi (Za ?_)));replace I:=I.sub (G' _ (G' _ Z_));exact U0):p:=h
def UG{p:Prop}(h:p:=by
  refine⟨⟨i+1,Z',rfl,I⟩,by show n-(i+1)<n-i;omega, ?_⟩;exact Wb):p:=h
def J1{p:Prop}(h:p:=by
  refine ow ?_;rintro b e ⟨rfl,M⟩;refine⟨_,rfl, ?_⟩;replace I:=I.ext M;refine fa ?_;refine aZ ?_;exact Wb):p:=h
def OY{p:Prop}(h:p:=by
  refine Wi (C _ (S.hp I) I.below) ?_;rintro e_ w51 ⟨g,og,rfl,h3⟩;refine⟨_,rfl, ?_⟩;replace I:=I.join h3;simp only[C',F'] at I;refine Bb ?_;intro ws I;refine Cr ?_;exact yR):p:=h
def DY{p:Prop}(h:p:=by
  have R:q<4294967296:=Z';have p:=mz g b0 o Z';rw[<-P] at p;have t:=t R;refine fa ?_;refine sv (Lg rfl rfl) ?_;refine fa ?_;refine sv (Lg (a:=4294967296) rfl rfl) ?_;refine fa ?_;refine sv (Cf rfl rfl) ?_;refine fa ?_;refine⟨⟨Y_ (λn:Nat=>Value.int IntKind.u64 n) p,I⟩, ?_⟩;exact Wb):p:=h
def O1{p:Prop}(h:p:=by
  refine Oe rfl rfl ?_;refine cd I (hs1 _) ?_;intro w230 I;refine gT ?_;refine mulC (gT ?_);refine ZC ?_;refine FH ?_;refine HM ?_;refine Gi (aI (Zi (Za ?_)));replace I:=I.sub (G' _ (G' _ (G' _ (G' _ Z_))));exact U0):p:=h
def tM{p:Prop}(h:p:=by
  refine Yt ?_;exact NX):p:=h
def NY{p:Prop}(h:p:=by
  intro T I;refine cd I (K _ (S.hp I)) ?_;intro G I;refine Nm ?_;intro y a I;refine Er ?_;intro g q d I;simp only[j',t_] at I;replace I:=I.sub (r_ _ _);refine fa ?_;refine⟨⟨i+1,q,g,Z',rfl,rfl, ?_⟩,by show n-(i+1)<n-i;omega, ?_⟩
  .rw[he,Aa];exact I
  exact Wb):p:=h
def zZ{p:Prop}(h:p:=by
  refine Nm ?_;intro b43 w43 I;refine yw ?_;intro g e w44 I;simp only[j',t_] at I;replace I:=I.sub (r_ _ _);refine fa ?_;replace I:=I.sub (G' _ (O' _ (O' _ (P_ _))));refine⟨⟨k+1,e,g,Z',rfl,rfl,by rw[X,b,Aa];exact I⟩,by show n-(k+1)<n-k;omega, ?_⟩;exact Wb):p:=h
def F1{p:Prop}(h:p:=by
  refine Kc ?_;refine Hg 3 V' U' V' U' U' ?_;refine Ze I 2 [_,_] ?_;intro ws I;replace I:Hp _ (_::_::.blk _ _ [_,_] _::_) _:=I;refine aB (na (Gj ?_));refine qc3 (Nc rfl (Mc (vs:=[_,_]) pa.out (I.Ra (i:=3) (n:=2) rfl rfl) rfl) (Nc rfl (Mc (vs:=[_,_]) pa.out (I.Ra (i:=2) (n:=2) rfl rfl) rfl) (Ig (jk rfl) Xd))) ?_;exact⟨rfl,I.below⟩):p:=h
def uL{p:Prop}(h:p:=by
  refine Xa I (i:=3) (vs:=[_]) rfl rfl (dp rfl) rfl pa.out rfl Z' rfl ?_;intro ws I;simp only[j',t_] at I;refine Kc ?_;refine je (i:=3) U' rfl ?_;refine pj I 0 ?_;refine Kc ?_;refine je (i:=5) U' rfl ?_;refine Gi ?_;exact zW2):p:=h
def nY{p:Prop}(h:p:=by
  refine fM ?_;refine Ud 1 [_,_] ?_;refine dC (λ_ hj=>L _) ?_;refine Ud 0 [_,_] ?_;refine Fa ?_;intro p_ z;simp only[u',h_,or_false] at z;obtain rfl|rfl:=z
  .intro f W Q d;have P:=Q.bl;obtain⟨c,t,_⟩:=d;simp only[qe];have K:f 0=_:=t;rw[K];have g:f 1=_:=c;rw[g];replace I:=Q.hp;exact qY
  intro f W Q d;have P:=Q.bl;obtain⟨B,c,t,_⟩:=d;simp only[qe];have K:f 0=_:=t;rw[K];have g:f 1=_:=c;rw[g];have M:f 2=_:=B;rw[M];replace I:=Q.hp;exact cY):p:=h
def iZ{p:Prop}(h:p:=by
  refine fM ?_;refine Ud 1 [_,_] ?_;refine dC (λ_ hj=>L _) ?_;refine Ud 0 [_,_] ?_;refine Fa ?_;intro p_ z;simp only[u',h_,or_false] at z;obtain rfl|rfl:=z
  .intro f W Q d;have P:=Q.bl;obtain⟨c,t,_⟩:=d;simp only[qe];have K:f 0=_:=t;rw[K];have g:f 1=_:=c;rw[g];replace I:=Q.hp;clear K g Q;exact qY
  intro f W Q d;have P:=Q.bl;obtain⟨B,c,t,_⟩:=d;simp only[qe];have K:f 0=_:=t;rw[K];have g:f 1=_:=c;rw[g];have M:f 2=_:=B;rw[M];replace I:=Q.hp;clear K g M Q;exact cY):p:=h
def sG{p:Prop}(h:p:=by
  exact jY):p:=h
def FZ{p:Prop}(h:p:=by
  obtain⟨B,v49,t,v47,v46,v45,v44,v43,v42,v41,v40,v39,v38,v37,v36,v35,v34,v33,v32,v31,v30,_⟩:=p;obtain⟨j,b,K,f48⟩:Rows _ _ _ (f 18) W:=t;obtain⟨T,c50,M,f50⟩:Rows _ _ _ (f 20) W:=B;replace I:=Q.hp;refine lg ?_;clear K M Q;refine mb I (i:=3) rfl rfl rfl (f50) Qa.out pa.out rfl V' (by first|rfl|exact Nb _|exact xb _|exact Da _|exact Ia NR.one _) Z' Z' V' ?_;intro D X w51 I;simp only[j',t_] at I;refine fa ?_;replace I:=I.perm (W_ (l₁:=[_,_]));simp only[C',F'] at I;refine u.st (v':=.slice D (q+1+1) X) I rfl rfl rfl pa.out rfl ?_;intro ws I;replace I:=I.perm (W_ (l₁:=[_,_]));simp only[C',F'] at I;replace I:=I.perm (W_ (l₁:=[_,_]));simp only[C',F'] at I;refine fa ?_;have e1:ia NR.cells (ky x.da (q+1))++[.bool (nR (x.da^(q+1))).neg,.string (nR (x.da^(q+1))).Va,.int .i64 (nR (x.da^(q+1))).e]=ia NR.cells (ky x.da (q+1+1)):=by rw[show ky x.da (q+1+1)=ky x.da (q+1)++[nR (x.da^(q+1))] from VE _ _,Aa,Jj];rfl
  rw[e1] at I;have a:=u.ld (I.sub (.cons _ (.cons _ (P_ _))));refine⟨⟨q+1+1,_,_,Z',Z',I⟩, ?_, ?_⟩
  .unfold HT;rw[L,a];show n+1-(q+1+1)<n+1-(q+1);omega
  exact Wb):p:=h
def IY{p:Prop}(h:p:=by
  obtain⟨N,x⟩:=OM g Z' Z' o F;have S:(q+18446744073709551616-1) % 18446744073709551616=q-1:=Z';have f:(d+j) % 18446744073709551616=d+j:=Z';by_cases G:4294967296<=d+j
  .have p:=II g b0 x Z' G;rw[<-P] at p;by_cases R:4294967296<=q
   .exact kZ
   have t:=t Z';refine fa ?_;refine sv (Lg rfl rfl) ?_;refine fa ?_;refine sv (Lg (a:=4294967296) rfl rfl) ?_;refine fa ?_;refine sv (Cf rfl rfl) ?_;exact kZ
  have T:d+j<4294967296:=Z';by_cases R:4294967296<=q
  .exact KY
  have t:=t Z';refine fa ?_;refine sv (Lg rfl rfl) ?_;refine fa ?_;refine sv (Lg (a:=4294967296) rfl rfl) ?_;refine fa ?_;refine sv (Cf rfl rfl) ?_;exact KY):p:=h
def BE{p:Prop}(h:p:=by
  refine Kc ?_;refine vb (i:=5) (by repeat (first|exact Mb|refine lb ?_|refine Lb ?_|refine Sa ?_)) rfl U' U' U' (λ_=>Ws rfl rfl Z' Z') V' ?_;refine Gz ?_;exact jY):p:=h
def vZ{p:Prop}(h:p:=by
  refine Wi (hcm _ (S.hp I)) ?_;rintro H w115 ⟨rfl,M⟩;refine⟨_,rfl, ?_⟩;replace I:=I.ext M;by_cases z:wd<tol.da
  .rw[P' z] at C;have hcn:=hcl.2 z;refine fa ?_;refine DP ?_;intro b121 w121 I;refine oE ?_;intro A122 c122 w122 I;simp only[j',t_] at I;replace I:=I.sub (r_ _ _);refine fa ?_;replace I:=I.perm (W_ (l₁:=[_,_,_]));simp only[C',F'] at I;replace I:=I.perm (W_ (l₁:=[_,_]));simp only[C',F'] at I;replace I:=I.perm (W_ (l₁:=[_,_,_]));simp only[C',F'] at I;replace I:=I.sub (O' _ (O' _ (O' _ (G' _ (P_ _)))))
   refine⟨⟨i+1,fu,r,ls++[⟨2,⟨some ⟨gx,0,none⟩,K,xc,N⟩,rd⟩],_,_,_,r.length,c2,_,by rw[y'];rfl,rfl,rfl,rfl,by rw[G_];exact C,λy hy=>⟨M9 _ (J y (L' _ hy)).1,(J y (L' _ hy)).2⟩,λy hy=> ?_,by rw[y'];show ls.length+1<=i+1;omega,Z',Z',by rw[y',Aa];exact I⟩,by show(max bu 0+1).toNat-(i+1)<(max bu 0+1).toNat-i;omega, ?_⟩
   .exact aee
   exact Wb
  rw[Q' z] at C;have hcn:¬cv<0:=λh=>z (hcl.1 h);refine fa ?_;obtain⟨f1,_,_⟩:=hF _ _ I λy hy=>L' _ (L' _ (L' _ (L' _ hy)));refine te (oC (some ⟨gx,0,none⟩) K xc N a s 400 _ (S.hp I) f1 o.bx Z' V' F) rfl ?_;rintro H w126 ⟨LA,lc,UA,uc,rfl,Y⟩;refine⟨_,rfl, ?_⟩;replace I:=I.join Y;simp only[C',F'] at I;refine fa ?_;refine Sb I (cs:=[_,_]) Qa.out pa.out (Eb (dp rfl) (Eb (dp rfl) ae)) rfl rfl V' V' V' rfl V' ?_;intro b133 w133 I;refine pU ?_;intro A134 c134 w134 I;simp only[j',t_] at I;replace I:=I.sub (r_ _ _);refine fa ?_;replace I:=I.perm (W_ (l₁:=[_]));simp only[C',F'] at I;replace I:=I.perm (W_ (l₁:=[_]));simp only[C',F'] at I;replace I:=I.perm (W_ (l₁:=[_,_,_,_,_]));simp only[C',F'] at I;replace I:=I.perm (W_ (l₁:=[_,_,_,_]));simp only[C',F'] at I
  replace I:=I.perm (W_ (l₁:=[_,_,_,_,_]));simp only[C',F'] at I;replace I:=I.sub (O' _ (O' _ (O' _ (O' _ (O' _ (G' _ (P_ _)))))));have hll:∀u,(uj N a s u).length=K:=λu=>by unfold uj;rw[d_,D'];omega
  refine⟨⟨i+1,fu,⟨LA,K,lc,uj N a s false⟩::⟨UA,K,uc,uj N a s true⟩::r,ls,A1,c1,_,_,_,(⟨UA,K,uc,uj N a s true⟩:ZB).row::(⟨LA,K,lc,uj N a s false⟩:ZB).row::(Rw++.row Af K af 78 2 (ia FX.cells fs)::Rf),rfl,rfl,rfl,rfl,C,λy hy=> ?_,λy hy=>L' _ (L' _ (M9 _ (hls y hy))),Z',Z',by show r.length+2<=_;omega, ?_⟩,by show(max bu 0+1).toNat-(i+1)<(max bu 0+1).toNat-i;omega, ?_⟩
  .exact af8
  .exact ae9
  exact Wb):p:=h
def x1{p:Prop}(h:p:=by
  refine⟨by grind,λx C=> ?_⟩;obtain rfl|C:=u'.1 C
  .grind
  exact h2 x C):p:=h
def o0{p:Prop}(h:p:=by
  refine JS ?_;intro W T I;refine⟨?_,I.below⟩;rw[Q'];rintro (h|h)
  .omega
  cases h):p:=h
def T1{p:Prop}(h:p:=by
  cases C:xs[i]? with
  |none=>exact Sz.zero _
  |some x=>exact h x (N' C)):p:=h
def UY{p:Prop}(h:p:=by
  rw[<-t,y',p',P9 Z'];exact⟨rfl,I.below⟩):p:=h
def W0{p:Prop}(h:p:=by
  exact Y_ (Value.int IntKind.i64) (show(n:Int)-1=(n:Int)-1-(0:Nat) by omega)):p:=h
def YR{p:Prop}(h:p:=by
  refine fa ?_;exact⟨by rw[m' h],I.below⟩):p:=h
def bT{p:Prop}(h:p:=by
  refine fa ?_;exact⟨by rw[m' s],I.below⟩):p:=h
def sY{p:Prop}(h:p:=by
  refine oQ ?_;intro ws I;rw[w' Z'] at z;rw[z];exact⟨rfl,I.below⟩):p:=h
def I2{p:Prop}(h:p:=by
  have h1:bN m≠0:=λh=>J (by rw[h,Yh]);rw[m' h1];exact⟨rfl,I.below⟩):p:=h
def x0{p:Prop}(h:p:=by
  exact Z7.1 λh=>h3 (m' (by rwa[ne_eq,A6]))):p:=h
def aal{p:Prop}(h:p:=by
  exact⟨0,J' _,rfl,λt S=>(nomatch S),I⟩):p:=h
def abg{p:Prop}(h:p:=by
  refine gZ ?_;intro j B I W I D I;exact⟨rfl,I.below⟩):p:=h
def aaD{p:Prop}(h:p:=by
  intro z I;refine oQ ?_;intro ws I;exact⟨rfl,I.below⟩):p:=h
def acX{p:Prop}(h:p:=by
  rw[K_ (by rw[V9];omega),K_ Z'];rfl):p:=h
def acL{p:Prop}(h:p:=by
  simp only[I_,R9,Z6,List.sum_nil,JU];simp only[IR.v,S];omega):p:=h
def abi{p:Prop}(h:p:=by
  rw[z',f_ Z'];rfl):p:=h
def acD{p:Prop}(h:p:=by
  refine Bb ?_;refine mV ?_;intro ws I;exact⟨PX.nil,Gf.err he0,rfl,(I.sub (m_ _)).FI⟩):p:=h
def ace{p:Prop}(h:p:=by
  have g:¬2^24<len*sz:=Z';have T:=Ou _ _ _ Y;refine OZ ?_;intro T h a;simp[newRow]):p:=h
def aag{p:Prop}(h:p:=by
  refine Ca func128 ?_;refine fa ?_;exact⟨rfl,I.below⟩):p:=h
def adV{p:Prop}(h:p:=by
  refine fa ?_;rw[Nat.sub_eq_zero_of_le Z',k' Z',Yh];exact⟨rfl,I.below⟩):p:=h
def aec{p:Prop}(h:p:=by
  have:=hp t (Ih t S) (i+1) (by rw[T_];omega);rwa[show j+1+i=j+(i+1) by omega]):p:=h
def acA{p:Prop}(h:p:=by
  have h1:bN m=0:=by rw[<-Yh] at J;exact fB J
  rw[k' Z'];exact⟨rfl,I.below⟩):p:=h
def aeI{p:Prop}(h:p:=by
  induction xs generalizing ys c with
  |nil=>exact Dg.nil
  |cons x xs W=>exact Dg.cons (Q_ _ E) (W _ _)):p:=h
def abt{p:Prop}(h:p:=by
  refine fa ?_;exact .inl ⟨by rw[x];decide,by rw[x],I.below⟩):p:=h
def ad4{p:Prop}(h:p:=by
  refine cd I (h2 _ (S.hp I)) ?_;intro g I;refine cd I (E _ (S.hp I)) ?_;intro J I;refine fa ?_;exact⟨rfl,I.below⟩):p:=h
def acx{p:Prop}(h:p:=by
  cases p with
  |nil=>show Sz k (nR 0).da;rw[Ga];exact Sz.zero k
  |cons t p=>exact(y t I').2):p:=h
theorem aed{p:Prop}(h:p:=by
  refine aft ?_;(unhygienic intros)
  exact d' (E6 _ _) (by rw[V9];omega)):p:=h
def acJ{p:Prop}(h:p:=by
  rw[u_,D6,M_] at I;refine fa ?_;exact⟨_,rfl,I.at_ (i:=0) rfl,I.below⟩):p:=h
def adY{p:Prop}(h:p:=by
  refine Ca func83 ?_;refine Bb ?_;intro b1 Z I;refine cd I (u _) ?_;intro w7 I;refine fa ?_;exact⟨rfl,I.below⟩):p:=h
def acO{p:Prop}(h:p:=by
  rw[show(18446744073709551616:Nat)=2^64 from rfl,<-i_];exact J_ Z' Z'):p:=h
def abW{p:Prop}(h:p:=by
  exact⟨PX.nil,Gf.err he,rfl,(I.sub (m_ _)).FI⟩):p:=h
def aa6{p:Prop}(h:p:=by
  refine fa ?_;exact⟨_,_,rfl,World.ownsRow_nil _ _ _ _,I.below⟩):p:=h
def jW{p:Prop}(h:p:=by
  rw[T] at h1;rw[T];exact⟨_,_,rfl,h1,I.below⟩):p:=h
def adW{p:Prop}(h:p:=by
  have:=qx n zc;rw[f] at this;unfold madeCells;rw[r];have a:zc.toArray.size=sz:=by simpa using f
  rw[a,this]):p:=h
def ad5{p:Prop}(h:p:=by
  exact Y_ (Value.int IntKind.i64) (show(n:Int)-1-(k:Int)-1=(n:Int)-1-((k+1:Nat):Int) by omega)):p:=h
def aa8{p:Prop}(h:p:=by
  exact⟨I',L' _ I'⟩):p:=h
def aeG{p:Prop}(h:p:=by
  refine lY ?_;intro h1 h2;have G:i<L.size:=by rw[g.ls,hnn];exact hi
  have:=h2 L[i] (by simp);simpa[G] using this):p:=h
def aeu{p:Prop}(h:p:=by
  refine fa ?_;refine sv (Li Qa.out Qa.out Qa.out rfl (I.ma (i:=0) rfl)) ?_;refine fa ?_;exact⟨rfl,I.below⟩):p:=h
def acy{p:Prop}(h:p:=by
  unfold ei;rw[D'];exact d' (E6 _ _) (by rw[V9];exact E' _)):p:=h
def lV{p:Prop}(h:p:=by
  refine ac1 ?_;intro T q I c I;exact⟨rfl,I.below⟩):p:=h
def EX{p:Prop}(h:p:=by
  refine adj ?_;intro T q I a I;exact⟨rfl,I.below⟩):p:=h
def adQ{p:Prop}(h:p:=by
  refine yb ?_;intro T q I j p I;refine cd I (Sd a b _ (S.hp I) M F) ?_;intro c I;refine fa ?_;rw[N];exact⟨rfl,I.below⟩):p:=h
def aaN{p:Prop}(h:p:=by
  cases rest with
  |nil=>simp at hlen;omega
  |cons x r=>exact⟨x,r,rfl⟩):p:=h
def abY{p:Prop}(h:p:=by
  intro ws I;exact⟨PX.nil,Gf.err J,rfl,(I.sub (m_ _)).FI⟩):p:=h
def acB{p:Prop}(h:p:=by
  refine L8 λhn=>X λi hi=> ?_
  cases hc2:L.getD i false with
  |true=>rfl
  |false=>exact absurd ⟨i,hi,hc2⟩ hn):p:=h
def ack{p:Prop}(h:p:=by
  have:((L.cs.map NR.da).map nR)[i]?=some x:=by rw[<-y];exact C
  rw[z',z',C] at this;exact i' this):p:=h
def ac8{p:Prop}(h:p:=by
  refine⟨Z', ?_⟩;by_cases E:P+2^i*(p % 2)<C+2^i*(j % 2)
  .rw[P' E];rw[D] at E;omega
  rw[Q' E];rw[D] at E;omega):p:=h
def aeq{p:Prop}(h:p:=by
  intro U Z hj hR;obtain⟨g95,e95,o95⟩:=hR.1;exact wc rfl (vd (show _=Value.tuple (List.toArray _) from e95) rfl) ⟨Below.refl _ _,rfl⟩):p:=h
def acC{p:Prop}(h:p:=by
  refine na (cT (sr ?_));refine cd I (jl _ (S.hp I)) ?_;intro w40 I;refine aB (na (Gj (Ut ?_)));refine qa1 ?_;exact⟨rfl,I.below⟩):p:=h
def adr{p:Prop}(h:p:=by
  intro U Z hj hR;obtain⟨j,b,h,J⟩:=hR.1;exact ib rfl (La fi (qa h Wa)) (F j b _ (hT.hp hj.hp) J) (λ_ _ R=>⟨_,R.1,R.2,rfl⟩)):p:=h
def abj{p:Prop}(h:p:=by
  obtain h|h:=G8 n
  .exact h
  obtain⟨_,h1,_⟩:=J.2 h;cases h1):p:=h
def aas{p:Prop}(h:p:=by
  rw[A6];exact⟨λh=>by unfold NR.da;rw[h];rfl,Xt⟩):p:=h
def aeC{p:Prop}(h:p:=by
  rw[E,L,K] at c;refine Wi (c) ?_;rintro R w_ ⟨rfl,I⟩;refine⟨_,rfl, ?_⟩;refine fa ?_;exact⟨rfl,I.sub (.cons_cons _ (.cons _ (.cons _ (P_ _))))⟩):p:=h
def gW{p:Prop}(h:p:=by
  refine fa ?_;exact⟨by rw[k' Z'],I.below⟩):p:=h
def ac2{p:Prop}(h:p:=by
  obtain hy|hy:=O_.1 hy
  .exact⟨(z y hy).1,L' _ (z y hy).2⟩
  obtain rfl:=q'.1 hy;exact⟨rfl,I'⟩):p:=h
def adA{p:Prop}(h:p:=by
  have e1:=((Jh (O:=O) (λi=>.int .i64 i) ds d hnd).1 i p1).symm.trans ((Jh (O:=O) (λi=>.int .i64 i) ds d hnd).1 j p2);injection e1 with _ e1
  omega):p:=h
theorem adE{p:Prop}(h:p:=by
  refine Kc ?_;refine je (i:=3) U' rfl ?_;refine rk I 3 [_,_] ?_;refine w1 ?_;(unhygienic intros)
  repeat refine oc rfl ?_
  exact λ_ _=>rfl):p:=h
def abv{p:Prop}(h:p:=by
  refine aes ?_;rw[z',f_ hi];simp only[p9,hd]):p:=h
def adF{p:Prop}(h:p:=by
  refine Am ?_;intro T q I D y I ws I;refine qN (Nc rfl (Mc (vs:=[_,_,_,_,_,_]) pa.out (I.Ra (i:=0) (n:=6) rfl rfl) rfl) Xd) ?_;exact⟨rfl,I.below⟩):p:=h
def abb{p:Prop}(h:p:=by
  rw[S9 Z',Q,u_,c9,I9,C]):p:=h
def yP{p:Prop}(h:p:=by
  intro b I;refine VI ?_;intro ws I;exact⟨rfl,I.below⟩):p:=h
def acS{p:Prop}(h:p:=by
  have e:ns=ns.take i++d::ns.drop (i+1):=by rw[<-de h,q_]
  conv=>lhs;rw[e]
  rw[g7,m8,H_];rfl):p:=h
def aap{p:Prop}(h:p:=by
  exact⟨0,0,none,[],[],J' _,rfl,rfl,rfl,λy h=>absurd h h_,I⟩):p:=h
def aet{p:Prop}(h:p:=by
  simp only[Value.cells,R6,Value.slice.injEq,and_true] at h1;obtain⟨rfl,rfl,rfl⟩:=h1;exact⟨none,0,0,[],rfl,Sl.nil W none 1,by simp,λ_ h=>by simp at h⟩):p:=h
def abh{p:Prop}(h:p:=by
  rw[U9] at hun |-;rw[k7 S] at hun |-;simpa using hun):p:=h
def adw{p:Prop}(h:p:=by
  obtain⟨x,C,rfl⟩:=hu;rw[o8] at C;split at C
  .obtain⟨N,B⟩:=x'.1 C;have:=g j N;rw[X9,C] at this;exact this
  cases C):p:=h
def ade{p:Prop}(h:p:=by
  have N:(O++X++Y).length=O.length+n+m:=by rw[y',y'];omega
  exact⟨O++X++Y,p,v,hd,by rw[N],by rw[N,Aa,Aa];exact I⟩):p:=h
def ac5{p:Prop}(h:p:=by
  refine Ca (l:=[p.V,.slice xA ys.length xc]) func28 ?_;refine yb ?_;intro b2 w2 I b4 w4 I;refine cd I (K _ (hT.hp I) I.below) ?_;intro w15 I;refine agd ?_;intro ws I;exact⟨rfl,I.below⟩):p:=h
def aep{p:Prop}(h:p:=by
  refine wz ?_;rw[<-hbar];exact⟨rfl,rows,RS,I.sub (.cons _ (.cons _ (P_ _))),hfr⟩):p:=h
def acP{p:Prop}(h:p:=by
  have hmn:l.length<=0+m:=by
   obtain h|h:=o_ m l.length
   .have h1:=X m h;rw[g.tl m (E' _)] at h1
    cases h1
   omega
  exact full L a w 0 g (λi hi=>X i Z') hmn):p:=h
def ae9{p:Prop}(h:p:=by
  rw[show(⟨LA,K,lc,uj N a s false⟩::⟨UA,K,uc,uj N a s true⟩::r:List ZB).reverse=r.reverse++[⟨UA,K,uc,uj N a s true⟩,⟨LA,K,lc,uj N a s false⟩] by simp,Aa];exact I):p:=h
def aen{p:Prop}(h:p:=by
  rw[hu];refine Bb ?_;intro ws I;refine wz ?_;rw[w' Z'] at z;rw[z];exact⟨rfl,I.below⟩):p:=h
def acM{p:Prop}(h:p:=by
  have G:rest=[]:=Q8 Z';subst G;refine fa ?_;refine afb (by first|exact .inr rfl|exact .inl rfl) rfl  ?_;rw[M_,pg,M_] at*;rw[<-heq];exact⟨rfl,I⟩):p:=h
def aa9{p:Prop}(h:p:=by
  refine fa ?_;exact⟨none,0,[],[],rfl,rfl,λx h=>absurd h h_,(I.sub (m_ _)).rb _ _⟩):p:=h
def aey{p:Prop}(h:p:=by
  rintro e a' V ⟨ρ',T,R⟩;have b:(λi=>a.tmps.getD i undef)=O:=funext Y.at_;have L:(λi=>a'.tmps.getD i undef)=ρ':=funext T.at_
  cases e with
  |normal=>exact⟨⟨ρ',T,R.1⟩,by rw[b,L];exact R.2⟩
  |_=>exact⟨ρ',T,R⟩):p:=h
def ac9{p:Prop}(h:p:=by
  refine fa ?_;refine PZ ?_;refine Bb ?_;intro ws I;refine Cr ?_;exact .inl ⟨.inr ⟨J,by rw[D];decide,by rw[D];rfl⟩,I.below⟩):p:=h
def aee{p:Prop}(h:p:=by
  refine M9 _ ?_;obtain hy|hy:=O_.1 hy
  .exact hls y hy
  rw[q'.1 hy];exact hmx):p:=h
def ada{p:Prop}(h:p:=by
  have h1:M<256^(ra 256 M).length:=zl Z' M;rw[WT Z' h1,u_,D6,M_,DN (λd T=>(Ed (B:=256) Z' M).1 d (y8.1 T)),sb,List.map_reverse]):p:=h
theorem acr{p:Prop}(h:p:=by
  unfold Region.ready;rw[D9,S_,hnn];constructor
  .refine afy ?_;(unhygienic intros)
   simpa[hb] using this
  refine aea ?_;(unhygienic intros)
  cases hb:Region.binds .any e with
  |false=>simp
  |true=>simpa[hb] using G e he hb):p:=h
def acY{p:Prop}(h:p:=by
  refine wb ?_;refine Fa ?_;intro f W Q a _;have N:=Q.bl;obtain⟨v53,v52,v51,v50,v49,v48,v47,v46,v45,v44,v43,v42,v41,v40,v39,Y,S,R,P,L,J,F,D,v30,B,H,y,s,r,o,E,G,e,_⟩:=a;replace I:=Q.hp;refine lg ?_;clear Q;refine fa ?_;exact⟨rfl,I.below⟩):p:=h
def abM{p:Prop}(h:p:=by
  refine yb ?_;intro D y I R v I;refine Vz ?_;refine VI ?_;intro ws I;exact⟨rfl,I.below⟩):p:=h
def abG{p:Prop}(h:p:=by
  refine Bb ?_;intro ws I;refine JD ?_;exact⟨rfl,I.below⟩):p:=h
def dX{p:Prop}(h:p:=by
  refine fa ?_;exact⟨_,rfl,⟨λ_=>W9.2 ⟨z,N' o,a⟩,λ_=>by omega⟩,I.below⟩):p:=h
def af8{p:Prop}(h:p:=by
  obtain rfl|hy:=u'.1 hy
  .exact⟨L' _ I',(hll false).symm⟩
  obtain rfl|hy:=u'.1 hy
  .exact⟨I',(hll true).symm⟩
  exact⟨L' _ (L' _ (M9 _ (J y (L' _ hy)).1)),(J y (L' _ hy)).2⟩):p:=h
def acs{p:Prop}(h:p:=by
  have L:ia TR.cells (bh l x)=[]++ia TR.cells (l.take i)++[.string x.m,.bool (nR x.c.da).neg,.string (nR x.c.da).Va,.int .i64 (nR x.c.da).e]++ia TR.cells (l.drop i):=by rw[D,Aa,uh,F',H_];rfl
  exact WZ):p:=h
def ZW{p:Prop}(h:p:=by
  refine EF ?_;exact⟨rfl,I.below⟩):p:=h
def acW{p:Prop}(h:p:=by
  split at h
  .rename_i f Y;have:=K6 Y;simp at this;exact absurd h this
  rename_i Y;split at h
  .cases h
  rename_i w;refine⟨λe=>w (.inl (by rw[e];rfl)),λf hm=> ?_,λf hm=> ?_⟩
  .have:=a8.1 Y f hm;simpa using this
  apply L8;intro E;exact w (.inr (W9.2 ⟨f,hm,m' E⟩))):p:=h
def jE{p:Prop}(h:p:=by
  refine fa ?_;exact⟨_,_,rfl,I.at_ (i:=0) rfl,I.below⟩):p:=h
def abH{p:Prop}(h:p:=by
  have hik:i=k:=by
   obtain h|h:=o_ i k
   .exact absurd ⟨i,h,h2,G⟩ hex
   omega
  subst hik;refine⟨i,h2,G,λj hj=> ?_⟩
  cases hc2:L.getD j false with
  |true=>rfl
  |false=>exact absurd ⟨j,hj,Z',hc2⟩ hex):p:=h
def AR{p:Prop}(h:p:=by
  refine wz ?_;exact⟨rfl,I.below⟩):p:=h
def Cx{p:Prop}(h:p:=by
  refine fa ?_;exact⟨_,rfl,λh=>(by cases h),I.below⟩):p:=h
def GP{p:Prop}(h:p:=by
  exact S'):p:=h
def ael{p:Prop}(h:p:=by
  have F:j/sz*sz+j % sz=j:=by rw[V_];exact T9 j sz
  have o:j % sz<sz:=Q_ _ J;have hj:j/sz<l.length:=(by have:=(x'.1 hu).1;rw[Wd Y] at this;exact Nat.div_lt_of_lt_mul (by rw[V_];exact this));obtain⟨x,C⟩:=aa hj;have L:=Yq Y C;have N:(f x)[j % sz]?=some u:=(by rw[<-L,o8,P' o,c9,F];exact hu);have B:=(World.cells?_some (hp _ _ C).1).2.2 (j % sz) o;rw[N,Ur,F] at B;exact B):p:=h
def OS{p:Prop}(h:p:=by
  rw[w' Z'] at X;refine fa ?_;exact⟨_,rfl,⟨λh=>absurd h V',λh=>by rw[X] at h;cases h⟩,I.below⟩):p:=h
def acQ{p:Prop}(h:p:=by
  refine mX rfl rfl (by first|assumption|rfl) V' ?_;refine fa ?_;rw[K];refine yb ?_;intro H w6 I ws I;refine Ak 9 I ?_;refine wb ?_;refine dC (λ_ hj=>X _ (S.hp hj.hp)) ?_;refine wb ?_;refine dC (λ_ hj=>u _ (S.hp hj.hp)) ?_;refine dfa ?_;refine Fa ?_;intro f W Q c;have N:=Q.bl;obtain⟨z,y,T,s,L,C,r,q,v30,_⟩:=c;replace I:=Q.hp;refine lg ?_;clear Q;exact qZ):p:=h
def aeA{p:Prop}(h:p:=by
  have hJ0:J ({ w with drawn:=w.drawn+1 }:World):=hJ w _ h0 ⟨rfl,rfl,rfl,E' _,λ_ _=>rfl⟩;have hr0:∀i,(Array.replicate l.toArray.size false).getD i false=false:=λi=>(by rw[U9,T5];split<;>rfl);refine key _ _ _ _ ⟨hf.nd,hf.sz,hJ0,by simp,λk o _ hk=> ?_,λk _=>hr0 k,λi d _ hi=> ?_,λs _=>hf.at_ s,λi _ hi=> ?_,λi _ j _ _ hi=> ?_⟩ ?_
  .rw[hr0] at hk;cases hk
  .rw[hr0] at hi;cases hi
  .rw[hr0] at hi;cases hi
  .rw[hr0] at hi;cases hi
  simp[List.countP_replicate]):p:=h
def abd{p:Prop}(h:p:=by
  intro U Z hj hR;exact wc rfl (pb (k:=a) Qa.out pa.size ((show U 55=Value.slice _ _ _ from hR.1).trans Qk) (show U 56=Value.int _ _ from hR.2.1) Z' Z') ⟨Below.refl _ _,rfl⟩):p:=h
def wW{p:Prop}(h:p:=by
  refine Xq ?_;intro I
  cases X:l.any p with
  |true=>
   have J:=a.2 X;refine fa ?_;exact⟨rfl,I.below⟩
  |false=>
   have J:¬0<=d:=λh=>by rw[a.1 h] at X;cases X
   refine fa ?_;exact⟨rfl,I.below⟩):p:=h
def acR{p:Prop}(h:p:=by
  have y:=OI (x:=x.da) (m:=q+1) (i:=n) Z';obtain⟨gq,rfl⟩:=I.kb (i:=3) rfl Z';refine fa ?_;refine sv (Ba pa.out rfl (u.ld (I.sub (.cons _ (.cons _ (P_ _)))))) ?_;refine fa ?_;refine sv (Ka (vs:=[_,_,_]) pa.out rfl (I.Wc (f:=NR.cells) (x:=nR (x.da^n)) (l:=ky x.da (q+1)) (i:=3) rfl NR.len V' y) rfl) ?_;refine Bb ?_;intro ws I;refine JD ?_;exact⟨rfl,_,_,_,z,I.sub (.cons _ (.cons _ (P_ _)))⟩):p:=h
def nE{p:Prop}(h:p:=by
  refine sv (Gm (c:=B) Qa.out rfl rfl Z' b) ?_;skip;refine afq ?_;congr 2;rw[z];omega):p:=h
def yR{p:Prop}(h:p:=by
  exact⟨g,og,rfl,I.sub (O' _ (m_ _))⟩):p:=h
def zW8{p:Prop}(h:p:=by
  cases x with
  |none=>simp at hxe
  |some C=>
   refine aeF ?_;rw[z'] at hx
   cases hr:(List.range m)[k]? with
   |none=>rw[hr] at hx;simp at hx
   |some y=>
    have hkm:k<m:=(by have:=(x'.1 hr).1;simpa using this);rw[f_ hkm] at hx;simp only[p9,g9] at hx;exact⟨hkm,hx⟩):p:=h
def NX{p:Prop}(h:p:=by
  exact⟨PX.nil,Gf.err V',rfl,(I.sub (m_ _)).FI⟩):p:=h
def zW6{p:Prop}(h:p:=by
  refine Kc ?_;refine Hg 3 V' U' V' U' U' ?_;refine Ze I 3 [_,_] ?_;intro ws I;replace I:Hp _ (_::_::_::.blk _ _ [_,_] _::_) _:=I;refine aB (na (Gj ?_));refine qc3 (Nc rfl (Mc (vs:=[_,_]) pa.out (I.Ra (i:=4) (n:=2) rfl rfl) rfl) (Nc rfl (Mc (vs:=[_,_]) pa.out (I.Ra (i:=3) (n:=2) rfl rfl) rfl) (Ig (jk rfl) Xd))) ?_;exact⟨rfl,I.below⟩):p:=h
def zW5{p:Prop}(h:p:=by
  refine Kc ?_;refine Hg 4 V' U' V' U' U' ?_;refine Bb ?_;intro ws I;refine qc3 (Nc rfl (Mc (vs:=[_,_]) pa.out (I.Ra (i:=2) (n:=2) rfl rfl) rfl) (Nc rfl (Mc (vs:=[_,_]) pa.out (I.Ra (i:=1) (n:=2) rfl rfl) rfl) (Ig (jk rfl) Xd))) ?_;exact⟨_,_,rfl,I.below⟩):p:=h
def zW4{p:Prop}(h:p:=by
  intro c I;rw[Uc];refine Wg (na (cF (Fb (Za (xa ?_)))));refine Ao I mixed λw_ e=> ?_;replace I:=e.hp;clear e;refine At (i:=0) (i2:=1) U' rfl rfl ?_ ?_
  .refine rk I 1 [_,_] ?_;refine Kc ?_;refine At (i:=1) (i2:=2) U' rfl rfl ?_ ?_
   .refine rk I 0 [_,_] ?_;exact MZ
   refine Ze I 3 [_,_] ?_;intro ws I;replace I:Hp _ (_::_::_::.blk _ _ [_,_] _::_) _:=I;refine Kc ?_;refine je (i:=1) U' rfl ?_;refine rk I 0 [_,_] ?_;exact F1
  refine rk I 0 [_,_] ?_;refine Kc ?_;refine je (i:=0) U' rfl ?_;refine rk I 1 [_,_] ?_;exact MZ):p:=h
def zW3{p:Prop}(h:p:=by
  refine Kc ?_;refine Hg 4 V' U' V' U' U' ?_;refine Bb ?_;intro ws I;refine qc3 (Nc rfl (Mc (vs:=[_,_]) pa.out (I.Ra (i:=1) (n:=2) rfl rfl) rfl) (Nc rfl (Mc (vs:=[_,_]) pa.out (I.Ra (i:=0) (n:=2) rfl rfl) rfl) (Ig (jk rfl) Xd))) ?_;exact⟨_,_,rfl,I.below⟩):p:=h
def zW2{p:Prop}(h:p:=by
  refine Kc ?_;refine Hg 18 V' U' V' U' U' ?_;refine sv (Lc (k:=k+i) Qa.out pa.size rfl rfl Z' Z') ?_;refine Xa I (i:=3) (vs:=[_]) rfl rfl (dp rfl) rfl pa.out rfl (by rw[Qe (by rw[hrc];show k*1+1<=_;omega)];omega) rfl ?_;intro ws I;replace I:=show Hp w0 (_::_::_::.row (some ⟨gB,0,none⟩) n c 215 1 (db (db (ia WX.cells rows) (k*1) (WX.cells x)) ((k+i)*1) (WX.cells xk))::RS) ws from I;refine na (Hb (mB ?_));refine DC ?_;refine aB (na ?_);refine⟨d _ I, ?_⟩;repeat refine oc rfl ?_
  exact λ_ _=>rfl):p:=h
def Wb{p:Prop}(h:p:=by
  exact T'):p:=h
structure KR(q:Prop):Prop where o:q
def VI{p q:Prop}(kQ:q)(e:KR q->p:=by
 intro kQ;refine Bb ?_;intro ws I;refine JD ?_
 revert ws I
 exact kQ.o):p:=e ⟨kQ⟩
def CR{p q:Prop}(kQ:q)(e:KR q->p:=by
 intro kQ;refine Bb ?_;intro ws I;refine Yt ?_
 revert ws I
 exact kQ.o):p:=e ⟨kQ⟩
def rn5{p q:Prop}(kQ:q)(e:KR q->p:=by
 intro kQ;intro ws I;refine Yt ?_
 revert ws I
 exact kQ.o):p:=e ⟨kQ⟩
def XO{p q:Prop}(kQ:q)(e:KR q->p:=by
 intro kQ;simp only[j',t_] at I;replace I:=I.sub (r_ _ _);refine fa ?_
 revert I
 exact kQ.o):p:=e ⟨kQ⟩
def rn9{p q:Prop}(kQ:q)(e:KR q->p:=by
 intro kQ;refine⟨_,rfl, ?_⟩;replace I:=I.join G;simp only[C',F'] at I
 revert I
 exact kQ.o):p:=e ⟨kQ⟩
def cW{p q:Prop}(kQ:q)(e:KR q->p:=by
 intro kQ;refine fa ?_;refine EP ?_;refine yb ?_;intro b4 w4 I ws I;refine jR [] [] 33 I ?_;refine wb ?_;refine dC (λ_ hj=>K _) ?_;refine wb ?_;refine yY ?_;refine wb ?_;refine Zh (i:=15) rfl (λU Z hj hR=>(show U 33=Value.bool _ from hR.2.1)) (λU Z hj hR=>La fi (qa (show U 35=Value.agg (List.toArray _) from hR.1) Wa)) (λZ hj=>j _ (hT.hp hj.hp)) ?_;refine wb ?_
 revert b4 w4 ws I
 exact kQ.o):p:=e ⟨kQ⟩
def dq{p q:Prop}(kQ:q)(e:KR q->p:=by
 intro kQ;refine Bb ?_;intro ws I;refine EF ?_
 revert ws I
 exact kQ.o):p:=e ⟨kQ⟩
def abV{p q:Prop}(kQ:q)(e:KR q->p:=by
 intro kQ;refine Bb ?_;intro ws I;refine Cr ?_
 revert ws I
 exact kQ.o):p:=e ⟨kQ⟩
def aaL{p q:Prop}(kQ:q)(e:KR q->p:=by
 intro kQ;refine fa ?_;refine sv (pb (k:=i) Qa.out pa.size G rfl Z' Z') ?_;refine sv (Ka (vs:=[_,_,_]) pa.out rfl ((sC.ext I.below).recAt NR.len C) rfl) ?_;refine yb ?_;intro K w12 I ws I;refine Ak 14 I ?_;refine wb ?_;refine Ma (i:=3) (λU Z hj hR=>Rm (show U 47=Value.int _ _ from hR.1) (show U 49=Value.int _ _ from hR.2.1) Z' Z' Z') ?_;refine wb ?_;refine Ma (i:=6) (λU Z hj hR=>rl (show U 50=Value.int _ _ from hR.1) (show U 52=Value.int _ _ from hR.2.1) Z' Z') ?_;refine wb ?_
 revert K w12 ws I
 exact kQ.o):p:=e ⟨kQ⟩
def XV{p q:Prop}(kQ:q)(e:KR q->p:=by
 intro kQ;replace I:=I.perm (W_ (l₁:=[_,_]));simp only[C',F'] at I
 revert I
 exact kQ.o):p:=e ⟨kQ⟩
def mV{p q:Prop}(kQ:q)(e:KR q->p:=by
 intro kQ;intro ws I;refine Cr ?_
 revert ws I
 exact kQ.o):p:=e ⟨kQ⟩
def LO{p q:Prop}(kQ:q)(e:KR q->p:=by
 intro kQ;refine Bb ?_;intro ws I;refine yL ?_
 revert ws I
 exact kQ.o):p:=e ⟨kQ⟩
def zO{p q:Prop}(kQ:q)(e:KR q->p:=by
 intro kQ;refine Jv ?_;refine Jv ?_;refine sv (Jp (k:=done.length) Qa.out pa.size rfl rfl Z' Z') ?_;refine Xa I (i:=0) (vs:=[_]) rfl rfl (Xb rfl) rfl pa.out rfl (by rw[ya];simp only[y',T_];omega) rfl ?_;intro ws I;simp only[j'] at I
 revert ws I
 exact kQ.o):p:=e ⟨kQ⟩
def XG{p q:Prop}(kQ:q)(e:KR q->p:=by
 intro kQ;refine fa ?_;refine sv (Ka (vs:=[_,_,_,_,_,_]) pa.out rfl ((H.ext I.below).recAt SR.len K) rfl) ?_;exact kQ.o):p:=e ⟨kQ⟩
def afU{p q:Prop}(kQ:q)(e:KR q->p:=by
 intro kQ;refine uo (λ_ hj=>(sD.ext hj.hp.below).Yr p) ?_;refine wb ?_;refine Fa ?_;intro f W Q hV;have q:=Q.bl;obtain⟨v60,v59,v58,v57,v56,v55,v54,v53,v52,v51,v50,v49,v48,v47,_⟩:=hV;replace I:=Q.hp;refine lg ?_;clear Q;refine fa ?_;refine Nm ?_;intro b65 w65 I;refine yw ?_;intro z N w66 I;simp only[j',t_] at I;replace I:=I.sub (r_ _ _);refine Bb ?_;intro ws I;replace I:=I.sub (G' _ (O' _ (O' _ (O' _ (O' _ (O' _ (O' _ Z_)))))));refine⟨⟨i+1,N,z,Z',rfl, ?_⟩,by show L.m-(i+1)<L.m-i;omega, ?_⟩
 .rw[h,y',G_,Aa,show[x.da].map nR=[x] by rw[I_,R9,hxn]];exact I
 revert f W q v60 v59 v58 v57 v56 v55 v54 v53 v52 v51 v50 v49 v48 v47 b65 w65 z N w66 ws I
 exact kQ.o):p:=e ⟨kQ⟩
def afd{p q:Prop}(kQ:q)(e:KR q->p:=by
 intro kQ;refine Kc ?_;refine je (i:=9) U' rfl ?_;refine vF ?_;intro b42 w42 I;refine Kc ?_;refine je (i:=10) U' rfl ?_;refine Er ?_;intro q R w43 I;simp only[j',t_] at I;replace I:=I.sub (r_ _ _);refine Kc ?_;refine Hg 15 V' U' V' U' U' ?_;refine fa ?_;replace I:=I.sub (O' _ Z_);refine⟨⟨_,n-1,c-1,X,_,m-1,b-1,Y,O++[⟨x.m,nR (x.c.da+y.c.da)⟩],q,R,rfl,rfl, ?_,Z',Z',D,g,a.both h1 h2 hk, ?_⟩,by show(n-1)+(m-1)<n+m;omega, ?_⟩
 .show Value.slice _ (O.length+1) _=Value.slice _ (O++[(⟨x.m,nR (x.c.da+y.c.da)⟩:TR)]).length _;rw[y'];rfl
 .rw[y',Aa];exact I
 revert b42 w42 q R w43 I
 exact kQ.o):p:=e ⟨kQ⟩
def abe{p q:Prop}(kQ:q)(e:KR q->p:=by
 intro kQ;replace I:=I.perm (W_ (l₁:=[_]));simp only[C',F'] at I
 revert I
 exact kQ.o):p:=e ⟨kQ⟩
def agd{p q:Prop}(kQ:q)(e:KR q->p:=by
 intro kQ;refine Bb ?_;intro ws I;refine dP (Nc rfl (Mc (vs:=[_,_,_]) pa.out (I.Ra (i:=0) (n:=3) rfl rfl) rfl) (Ig (ji rfl) Xd)) ?_
 revert ws I
 exact kQ.o):p:=e ⟨kQ⟩
def afJ{p q:Prop}(kQ:q)(e:KR q->p:=by
 intro kQ;refine fa ?_;refine bf 8 (λv V=>∃i:Nat,i<=n/\v=.int .i64 i/\(l.take i).any p=false/\Hp w [] V) (λv _=>n-(intOf v).toNat) ?_ ?_
 .exact⟨0,J' _,rfl,rfl,I⟩
 exact kQ.o):p:=e ⟨kQ⟩
def pI{p q:Prop}(kQ:q)(e:KR q->p:=by
 intro kQ;refine eG ?_;refine fa ?_;exact kQ.o):p:=e ⟨kQ⟩
def af4{p q:Prop}(kQ:q)(e:KR q->p:=by
 intro kQ;refine Bb ?_;intro ws I;refine wz ?_
 revert ws I
 exact kQ.o):p:=e ⟨kQ⟩
def oQ{p q:Prop}(kQ:q)(e:KR q->p:=by
 intro kQ;refine Bb ?_;intro ws I;refine qN (Nc rfl (Mc (vs:=[_,_,_]) pa.out (I.Ra (i:=1) (n:=3) rfl rfl) rfl) Xd) ?_
 revert ws I
 exact kQ.o):p:=e ⟨kQ⟩
def afh{p q:Prop}(kQ:q)(e:KR q->p:=by
 intro kQ;refine⟨_,rfl, ?_⟩;replace I:=I.ext M;refine fa ?_;refine aZ ?_
 revert I
 exact kQ.o):p:=e ⟨kQ⟩
def ae7{p q:Prop}(kQ:q)(e:KR q->p:=by
 intro kQ;have hed':∀o',l.toArray[i]?=some o'->∀e∈o'.after,Region.binds .any e=true->L.getD e.on false=true:=λo' K=>(by rw[W] at K;injection K with K;subst K;exact hed);have E:i<m:=by
  obtain h|h:=o_ i m
  .exact h
  exfalso;obtain h2|h2:=o_ m i
  .have G:=hdep (i-m) Z';rw[show m+(i-m)=i by omega] at G;have h4:(i-m==0)=false:=by simp;omega
   rw[h4,z_] at G;have:=tj hM g.cl i m hed' G;rw[g.tl m (E' _)] at this
   cases this
  obtain rfl:i=m:=Z';have h4:(l.length==i)=false:=by simp;omega
  rw[h4,z_] at htail;have h5:=L_.1 htail;obtain⟨j,hj,hjf,hju⟩:=hsome2;have h6:=h5 j (by simpa using hj);have h7:fl.contains j=false:=by simpa using hjf
  rw[h7,z_] at h6;have:=tj hM g.cl i j hed' h6;rw[hju] at this
  cases this
 revert hed' E
 exact kQ.o):p:=e ⟨kQ⟩
def afq{p q:Prop}(kQ:q)(e:KR q->p:=by
 intro kQ;refine sv (Dp Qa.out Qa.out rfl Z' Z') ?_;refine Gi (aI (na (Gj ?_)));refine qa1 ?_;refine⟨?_,Below.refl _ _⟩;exact kQ.o):p:=e ⟨kQ⟩
def adB{p q:Prop}(kQ:q)(e:KR q->p:=by
 intro kQ;refine Ze I 2 [_,_] ?_;intro ws I;replace I:Hp _ (_::_::.blk _ _ [_,_] _::_) _:=I
 revert ws I
 exact kQ.o):p:=e ⟨kQ⟩
def afV{p q:Prop}(kQ:q)(e:KR q->p:=by
 intro kQ;refine fa ?_;refine QZ ?_;refine fa ?_;refine ud 6 I ?_;refine iY ?_;refine wb ?_;refine QY ?_;refine dn ?_;intro W I;have t:=(d _ I).back (l:=a+1) (c:=c) Z' E
 revert W I t
 exact kQ.o):p:=e ⟨kQ⟩
def abJ{p q:Prop}(kQ:q)(e:KR q->p:=by
 intro kQ;refine Ze I 1 [_,_] ?_;intro ws I;replace I:Hp _ (_::.blk _ _ [_,_] _::_) _:=I
 revert ws I
 exact kQ.o):p:=e ⟨kQ⟩
def SV{p q:Prop}(kQ:q)(e:KR q->p:=by
 intro kQ;refine Ny (na (cT (sr (mI ?_))));refine sv (ao (s:=8) (m:=256) rfl rfl V' V') ?_;refine aI (na (Hb (mI ?_)));refine Gi (aI (na (sr (mI (mI ?_)))));refine Wz ?_;exact kQ.o):p:=e ⟨kQ⟩
def JR{p q:Prop}(kQ:q)(e:KR q->p:=by
 intro kQ;refine fa ?_;refine ud 8 I ?_;refine Ui (j) ?_;refine uo (λ_ hj=>(H.ext hj.hp.below).Yr a) ?_;refine wb ?_;refine Ui (j) ?_;refine uo (λ_ hj=>(K.ext hj.hp.below).Yr i) ?_;exact kQ.o):p:=e ⟨kQ⟩
def aax{p q:Prop}(kQ:q)(e:KR q->p:=by
 intro kQ;have F:=Q.at_ E;refine sr ?_;refine Wg (na (xa (cT (Fb (Za (xa (td (sr (mI (aI (na (sr (aI (na (xa (sr (mI (mL (xi ?_)))))))))))))))))));refine Wg (na (cT (Hb (mL (mI ?_)))));refine sv (pb (k:=done.length) Qa.out pa.size rfl rfl Z' Z') ?_;refine sv (Ba pa.out rfl ((hy _ _ I).tO E)) ?_
 revert F
 exact kQ.o):p:=e ⟨kQ⟩
def acZ{p q:Prop}(kQ:q)(e:KR q->p:=by
 intro kQ;intro ws I;refine yL ?_
 revert ws I
 exact kQ.o):p:=e ⟨kQ⟩
def aft{p q:Prop}(kQ:q)(e:KR q->p:=by
 intro kQ;obtain rfl:i=L.m:=Z';refine Bb ?_;intro ws I;replace I:=I.sub (O' _ (G' _ (O' _ (G' _ (O' _ (G' _ Z_))))));refine Cr ?_;refine⟨⟨some ⟨o,0,none⟩,L.n-1,j,B,(ei ap d (d*c) (L.cs.map NR.da) L.m).length,X,L.ds.eraseIdx a,(ei ap d (d*c) (L.cs.map NR.da) L.m).map nR⟩,rfl,rfl,by show L.n-1<=100000;omega, ?_,rfl,I.sub (B6 [_,_] _)⟩;show(ei ap d (d*c) (L.cs.map NR.da) L.m).length<=1000000;unfold ei;rw[D']
 revert ws I
 exact kQ.o):p:=e ⟨kQ⟩
def Xq{p q:Prop}(kQ:q)(e:KR q->p:=by
 intro kQ;refine⟨_,rfl, ?_⟩;replace I:=I.ext M
 revert I
 exact kQ.o):p:=e ⟨kQ⟩
def afy{p q:Prop}(kQ:q)(e:KR q->p:=by
 intro kQ;rintro ⟨h1,h2⟩;have W:l.toArray[i]?=some l[i]:=by simp[h1]
 rw[W] at h2;simp only[p9,J9,l',n8] at h2;refine⟨h1,h2.1,l[i],W,λe he hb=> ?_⟩;have:=j8.1 h2.2 e he
 revert h1 W h2 e he hb this
 exact kQ.o):p:=e ⟨kQ⟩
def adi{p q:Prop}(kQ:q)(e:KR q->p:=by
 intro kQ;refine yb ?_;intro D y I ws I;refine Yt ?_
 revert D y ws I
 exact kQ.o):p:=e ⟨kQ⟩
def abn{p q:Prop}(kQ:q)(e:KR q->p:=by
 intro kQ;intro s' hs';have hni:((l.toArray[i]?).bind (·.dst))≠some s':=hs' i E (by rw[re S];simp);have hold:=g.mv s' λj hj R=>hs' j hj (by rw[re S];simp[R]);rw[W] at hni;simp only[u6] at hni
 revert s' hs' hold hni
 exact kQ.o):p:=e ⟨kQ⟩
def aav{p q:Prop}(kQ:q)(e:KR q->p:=by
 intro kQ;refine Ca func96 ?_;refine Bb ?_;intro G Z I;refine cd I (h1 _ (J.ext I.below)) ?_;intro t I;rw[j];refine fa ?_;refine cd I (uf A n c ds _ (J.ext I.below) b) ?_;intro g I;refine fa ?_;refine Ak 6 I ?_;refine wb ?_;refine dC (λ_ hj=>uf A n c ds _ (J.ext hj.hp.below) b) ?_
 revert G Z t g I
 exact kQ.o):p:=e ⟨kQ⟩
def oV{p q:Prop}(kQ:q)(e:KR q->p:=by
 intro kQ;refine gT ?_;refine vy (gT ?_);refine sv (pb (k:=j) Qa.out pa.size rfl rfl Z' Z') ?_;refine gT ?_;refine dA ?_;refine fa ?_;exact kQ.o):p:=e ⟨kQ⟩
def adu{p q:Prop}(kQ:q)(e:KR q->p:=by
 intro kQ;refine Xa I (i:=0) (vs:=[_,_,_]) rfl rfl (Hd rfl) rfl pa.out rfl Z' rfl ?_;intro ws I;simp only[j'] at I
 revert ws I
 exact kQ.o):p:=e ⟨kQ⟩
def aeB{p q:Prop}(kQ:q)(e:KR q->p:=by
 intro kQ;refine sv (Cf rfl rfl) ?_;refine fa ?_;refine CS ?_;refine fa ?_;refine IU ?_;intro ws I;simp only[j'] at I;rw[hand,es,X_,Qb (by rw[o];omega),Tr,<-G,f] at I;refine fa ?_;refine sv (ao (s:=1) (m:=2) rfl rfl V' V') ?_;refine fa ?_;rw[es];refine⟨⟨i+1,Z',rfl,by rw[T];rfl,I⟩,by show K-(i+1)<K-i;omega, ?_⟩
 revert ws I
 exact kQ.o):p:=e ⟨kQ⟩
def agl{p q:Prop}(kQ:q)(e:KR q->p:=by
 intro kQ;refine aL (na (sr (mL (mI ?_))));refine sv (Lc (k:=(x.toNat)) Qa.out pa.size rfl rfl Z' Z') ?_;rw[yv] at I;have o:(bj (List.replicate v.toNat 0)).length=v.toNat:=by simp[bj]
 refine IU ?_;intro ws I;simp only[j'] at I;rw[show db (bj (List.replicate v.toNat 0)) (x.toNat*1) [.int .u8 1]=bj ((List.replicate v.toNat 0).set x.toNat 1) from AN (l:=List.replicate v.toNat 0) (i:=x.toNat) (c:=1) (by rw[Q9];omega)] at I;refine fa ?_
 revert o ws I
 exact kQ.o):p:=e ⟨kQ⟩
def bY{p q:Prop}(kQ:q)(e:KR q->p:=by
 intro kQ;refine Ak 12 I ?_;refine wb ?_;refine dG (Ui (i) ?_);refine wb ?_;refine dG (uo (λ_ hj=>((H.ext hj.hp.below).recAt TR.len S).cell (i:=0) rfl) ?_);refine wb ?_;refine Fa ?_;intro f W Q a
 revert f W Q a
 exact kQ.o):p:=e ⟨kQ⟩
def aea{p q:Prop}(kQ:q)(e:KR q->p:=by
 intro kQ;rintro ⟨h1,h2,o,W,G⟩;refine⟨h1, ?_⟩;rw[W];simp only[p9,J9,l',n8];refine⟨h2,j8.2 λe he=> ?_⟩
 revert h1 h2 o W G e he
 exact kQ.o):p:=e ⟨kQ⟩
def ac4{p q:Prop}(kQ:q)(e:KR q->p:=by
 intro kQ;unfold ByteArray.toList;have:∀(n i:Nat)(r:List UInt8),s.size-i=n->ByteArray.toList.loop s i r=r.reverse++s.data.toList.drop i:=by
  intro n
  induction n with
  |zero=>
   intro i r h;rw[ByteArray.toList.loop,Q' Z',P8 (by rw[Array.length_toList];show s.size<=i;omega)];simp
  |succ n W=>
   intro i r h;have hi:i<s.size:=Z';rw[ByteArray.toList.loop,P' hi,W (i+1) _ Z'];have v:i<s.data.toList.length:=by rw[Array.length_toList];exact hi
   rw[K8 v];have:s.get! i=s.data.toList[i]:=(by show s.data[i]! =_;rw[getElem!_pos s.data i (by simpa using v)];simp);simp[this]
 revert this
 exact kQ.o):p:=e ⟨kQ⟩
def afv{p q:Prop}(kQ:q)(e:KR q->p:=by
 intro kQ;replace I:=I.perm (W_ (l₁:=[_,_,_]));simp only[C',F'] at I
 revert I
 exact kQ.o):p:=e ⟨kQ⟩
def acE{p q:Prop}(kQ:q)(e:KR q->p:=by
 intro kQ;refine Bb ?_;intro ws I;refine qN (Nc rfl (Mc (vs:=[_,_,_,_,_,_]) pa.out (I.Ra (i:=0) (n:=6) rfl rfl) rfl) Xd) ?_
 revert ws I
 exact kQ.o):p:=e ⟨kQ⟩
def adL{p q:Prop}(kQ:q)(e:KR q->p:=by
 intro kQ;replace I:=hJ.hp;refine lg ?_;refine sv (Lc (k:=(i+j)) Qa.out pa.size rfl rfl Z' Z') ?_;refine ZS ?_;intro ws I;simp only[j',t_] at I;rw[show db (ia NR.cells (S.map nR)) ((i+j)*3) [.bool (nR (o+y)).neg,.string (nR (o+y)).Va,.int .i64 (nR (o+y)).e]=ia NR.cells ((S.map nR).set (i+j) (nR (o+y))) from Jd NR.len Z',<-B9,p] at I;refine fa ?_
 revert ws I
 exact kQ.o):p:=e ⟨kQ⟩
def aci{p q:Prop}(kQ:q)(e:KR q->p:=by
 intro kQ;have hputi:∀d,(l.toArray[i]?).bind (·.dst)=some d->(a.put o.dst v).tmps.getD d undef=v:=λd hd=>(by rw[W] at hd;simp only[u6] at hd;rw[hd,Ve (hd1 d hd),P' rfl]);have hfd:∀j∈fr,j≠i->L.getD j false=true->i∈fr->∀e,(l.toArray[j]?).bind (·.dst)=some e->a.tmps.getD e undef≠v:=λj hj z R hif e hje heq=>by
  obtain⟨b,hb1,hb2⟩:=g.fb j hj R e hje;obtain⟨b',hv1,hb3,_⟩:=hfv hif;rw[hb1,hv1] at heq;injection heq with heq
  injection heq with heq
  injection heq with heq
  omega
 revert hputi hfd
 exact kQ.o):p:=e ⟨kQ⟩
def EK{p q:Prop}(kQ:q)(e:KR q->p:=by
 intro kQ;refine sv (Jp (k:=done.length) Qa.out pa.size rfl rfl Z' Z') ?_;refine eG ?_;refine fa ?_;exact kQ.o):p:=e ⟨kQ⟩
def F0{p q:Prop}(kQ:q)(e:KR q->p:=by
 intro kQ;replace I:=I.perm (W_ (l₁:=[_,_,_,_]));simp only[C',F'] at I
 revert I
 exact kQ.o):p:=e ⟨kQ⟩
def gZ{p q:Prop}(kQ:q)(e:KR q->p:=by
 intro kQ;refine Ca func162 ?_;refine Bb ?_;intro j B I;refine cd I (K _ (S.hp I) I.below) ?_;intro W I;refine fa ?_;refine cd I (t _ (S.hp I) I.below) ?_;intro D I;refine fa ?_
 revert j B W D I
 exact kQ.o):p:=e ⟨kQ⟩
def HZ{p q:Prop}(kQ:q)(e:KR q->p:=by
 intro kQ;simp only[C',F'] at I;refine Bb ?_;intro ws I;refine yL ?_
 revert ws I
 exact kQ.o):p:=e ⟨kQ⟩
def IZ{p q:Prop}(kQ:q)(e:KR q->p:=by
 intro kQ;have G:=hdep (i-m) Z';rw[show m+(i-m)=i by omega] at G;have h4:(i-m==0)=false:=by simp;omega
 rw[h4,z_] at G
 revert h4 G
 exact kQ.o):p:=e ⟨kQ⟩
def F2{p q:Prop}(kQ:q)(e:KR q->p:=by
 intro kQ;rw[hp3] at hp2;refine g.mv p.1 λj hj R B=> ?_;have h6:=L_.1 hp2 j (by simpa using hj);rw[B] at h6;simp only[beq_self_eq_true,o7,z_,l'] at h6;have:=tj hM g.cl j i (λo' K e he hb=>g.cl j o' K R e he hb) h6.2
 revert hp2 j hj R B h6 this
 exact kQ.o):p:=e ⟨kQ⟩
def adC{p q:Prop}(kQ:q)(e:KR q->p:=by
 intro kQ;replace I:=I.perm (W_ (l₁:=[_,_]));simp only[C',F'] at I;replace I:=I.perm (W_ (l₁:=[_,_]));simp only[C',F'] at I
 revert I
 exact kQ.o):p:=e ⟨kQ⟩
def H0{p q:Prop}(kQ:q)(e:KR q->p:=by
 intro kQ;rw[List.take_take,P9 Z',List.drop_take,H_,H_,List.take_append,List.take_append];simp only[p',P9 (show o<=cur.toList.length by omega)];rw[w' (l:=cur.toList.take o) (by simp;omega),w' (l:=vs) Z'];exact kQ.o):p:=e ⟨kQ⟩
def adZ{p q:Prop}(kQ:q)(e:KR q->p:=by
 intro kQ;refine Ze I 0 [_,_,_] ?_;intro ws I;replace I:Hp _ (.blk _ _ [_,_,_] _::_) _:=I
 revert ws I
 exact kQ.o):p:=e ⟨kQ⟩
def OZ{p q:Prop}(kQ:q)(e:KR q->p:=by
 intro kQ;rw[<-qx,f] at T;have h:zc.toArray.size=sz:=by simpa using f
 have a:=RL parts hp;simp only[execOp,a,Instr.buildSlice,Sem.run_bind,run_underlying S,Result.andThen_ok,ff D,gt_iff_lt,Q' g,Q' J,o,r,Sem.run_pure,h,T]
 revert T h a
 exact kQ.o):p:=e ⟨kQ⟩
def I1{p q:Prop}(kQ:q)(e:KR q->p:=by
 intro kQ;refine dA ?_;refine fa ?_;exact kQ.o):p:=e ⟨kQ⟩
def aaf{p q:Prop}(kQ:q)(e:KR q->p:=by
 intro kQ;rw[hL];refine Pw m (λk h1 h2=> ?_) hend fuel m a w (E' _) hml hfu ?_
 .have:=hready (k-m) Z';rwa[show m+(k-m)=k by omega] at this
 exact kQ.o):p:=e ⟨kQ⟩
def H2{p q:Prop}(kQ:q)(e:KR q->p:=by
 intro kQ;refine yb ?_;intro J w5 I ws I;refine ud 9 I ?_;refine Zh (i:=4) rfl (λU Z hj hR=>(show U 15=Value.bool _ from hR.2.1)) (λU Z hj hR=>La fi (qa (show U 16=Value.agg (List.toArray _) from hR.1) Wa)) (λZ hj=>q _ (S.hp hj.hp)) ?_;refine wb ?_;refine dG (Ui (j) ?_);refine dG (Fj [_,_,_,_,_,_] (λ_ hj=>(H.ext hj.hp.below).recAt SR.len a) ?_)
 revert J w5 ws I
 exact kQ.o):p:=e ⟨kQ⟩
def xY{p q:Prop}(kQ:q)(e:KR q->p:=by
 intro kQ;refine xa (sr (mI ?_));refine Fu (mB (gT (mL (gT (mI (gT ?_))))));refine vy (gT ?_);refine sv (pb (k:=Y) Qa.out pa.size rfl rfl Z' Z') ?_;refine gT ?_;refine sv (Al Bd.out rfl) ?_;refine Oe rfl rfl ?_;refine sv (Ba pa.out rfl (((hr.ext I.below).recAt TR.len hx).cell (i:=0) rfl)) ?_;refine fa ?_;exact kQ.o):p:=e ⟨kQ⟩
def PJ{p q:Prop}(kQ:q)(e:KR q->p:=by
 intro kQ;refine ow ?_;rintro b e ⟨rfl,M⟩;try revert M
 try revert e
 try revert b
 exact kQ.o):p:=e ⟨kQ⟩
def JS{p q:Prop}(kQ:q)(e:KR q->p:=by
 intro kQ;rw[b] at W;refine fa ?_;refine Bu ?_;refine fa ?_;refine cd I (W _ (Below.refl _ _)) ?_;intro T I;refine fa ?_
 revert W T I
 exact kQ.o):p:=e ⟨kQ⟩
def GZ{p q:Prop}(kQ:q)(e:KR q->p:=by
 intro kQ;have R:((i:Int)/(ap:Int)) % ((d:Int)+1)=((i/ap % (d+1):Nat):Int):=by norm_cast
 have hq0:(0:Int)<=(i:Int)/(ap:Int):=Int.ediv_nonneg Z' Z';have h:=kz ap d (d*c) (L.cs.map NR.da) i;rw[T] at h;have hfl:(ei ap d (d*c) (L.cs.map NR.da) i).length<=i:=(by exact acy)
 revert R hq0 h hfl
 exact kQ.o):p:=e ⟨kQ⟩
def WS{p q:Prop}(kQ:q)(e:KR q->p:=by
 intro kQ;refine HA ?_;refine fa ?_;refine BU ?_;refine fa ?_;exact kQ.o):p:=e ⟨kQ⟩
def w1{p q:Prop}(kQ:q)(e:KR q->p:=by
 intro kQ;refine Kc ?_;refine Hg 7 V' U' V' U' U' ?_;refine Bb ?_;intro ws I;refine⟨⟨_,_,rfl,rfl,I.sub (.cons_cons _ (.cons_cons _ (.cons_cons _ (m_ _))))⟩, ?_⟩
 revert ws I
 exact kQ.o):p:=e ⟨kQ⟩
def u1{p q:Prop}(kQ:q)(e:KR q->p:=by
 intro kQ;refine Ca func272 ?_;refine Bb ?_;intro T q I;refine ud 8 I ?_;refine uo (λ_ hj=>(hj.hp.below.cell (Wl hp)).trans hp) ?_;refine Ma (i:=4) (λU Z hj hR=>vg Qa.out pa.size (show U 7=Value.slice _ _ _ from hR.1) rfl Z' Z') ?_;refine Wy ?_;refine uo (λ_ hj=>Kb hj.hp.below (((H.recAt FX.len J)) 0 _ rfl)) ?_;refine wb ?_
 revert T q I
 exact kQ.o):p:=e ⟨kQ⟩
def eu{p q:Prop}(kQ:q)(e:KR q->p:=by
 intro kQ;refine fa ?_;refine sv (Ba pa.out rfl ((H.ext I.below).Yr S)) ?_;refine fa ?_;exact kQ.o):p:=e ⟨kQ⟩
def TQ{p q:Prop}(kQ:q)(e:KR q->p:=by
 intro kQ;replace I:=I.perm (W_ (l₁:=[_,_,_,_,_,_,_,_]));simp only[C',F'] at I;replace I:=I.perm (W_ (l₁:=[_,_,_,_,_,_,_,_]));simp only[C',F'] at I
 revert I
 exact kQ.o):p:=e ⟨kQ⟩
def T0{p q:Prop}(kQ:q)(e:KR q->p:=by
 intro kQ;refine fa ?_;refine sv (Ba pa.out rfl (ND H (Ic C) rfl)) ?_;refine fa ?_;obtain⟨N,L⟩:=aaM C (by simp[zd];omega);rw[N,L]
 revert N L
 exact kQ.o):p:=e ⟨kQ⟩
def JY{p q:Prop}(kQ:q)(e:KR q->p:=by
 intro kQ;simp only[qe];have s:f 0=_:=v20;rw[s];have H:f 1=_:=j;rw[H];have o:f 2=_:=G;rw[o]
 revert s H o
 exact kQ.o):p:=e ⟨kQ⟩
def U1{p q:Prop}(kQ:q)(e:KR q->p:=by
 intro kQ;refine Ca func208 ?_;refine Bb ?_;intro T q I;refine ud 6 I ?_;refine uo (λ_ hj=>(hj.hp.below.cell (Wl hp)).trans hp) ?_;refine Ma (i:=3) (λU Z hj hR=>vg Qa.out pa.size (show U 6=Value.slice _ _ _ from hR.1) rfl Z' Z') ?_;refine Wy ?_;refine uo (λ_ hj=>Kb hj.hp.below (((H.recAt PX.len J)) 0 _ rfl)) ?_
 revert T q I
 exact kQ.o):p:=e ⟨kQ⟩
def SZ{p q:Prop}(kQ:q)(e:KR q->p:=by
 intro kQ;refine⟨g.nd,g.sz,λs=> ?_⟩;by_cases hs:∃i,(i,s)∈ds
 .obtain⟨i,hi⟩:=hs;rw[(Jh _ ds s hnd).1 i hi,(hdsm i s hi).2]
 revert s hs
 exact kQ.o):p:=e ⟨kQ⟩
def iq{p q:Prop}(kQ:q)(e:KR q->p:=by
 intro kQ;refine⟨_,rfl, ?_⟩;replace I:=I.pd (x:=.row _ _ _ _ _ _) M t
 revert I
 exact kQ.o):p:=e ⟨kQ⟩
def lY{p q:Prop}(kQ:q)(e:KR q->p:=by
 intro kQ;have h1:L.toList.countP (λb=>b)=L.toList.length:=(by have:=g.ls;simp only[Array.length_toList];omega);have h2:=List.countP_eq_length.1 h1
 revert h1 h2
 exact kQ.o):p:=e ⟨kQ⟩
def FE{p q:Prop}(kQ:q)(e:KR q->p:=by
 intro kQ;refine⟨_,rfl, ?_⟩;replace I:=I.join h4;simp only[C',F'] at I
 revert I
 exact kQ.o):p:=e ⟨kQ⟩
def BZ{p q:Prop}(kQ:q)(e:KR q->p:=by
 intro kQ;refine Ca func219 ?_;refine Bb ?_;intro G Z I;refine Bu ?_;have hp:=I.se (i:=0) (o:=0) rfl rfl;refine fa ?_;refine cd I (xJ A n c t _ [.pointer (some ⟨G,0,none⟩)] (λx=>decide (x.n≠n)) _ (J.ext I.below) B λz Z _ F=>Fy z n A c _ Z (Kb F hp)) ?_;intro a I;rw[X];refine fa ?_
 revert G Z hp a I
 exact kQ.o):p:=e ⟨kQ⟩
def X1{p q:Prop}(kQ:q)(e:KR q->p:=by
 intro kQ;refine Bb ?_;intro ws I;refine pP ?_
 revert ws I
 exact kQ.o):p:=e ⟨kQ⟩
def adk{p q:Prop}(kQ:q)(e:KR q->p:=by
 intro kQ;rw[I_];show Calls _ _ _ _ λr V=>∃g:PX,Gf (Ta q.ts (ye v (Q.map PX.ts) (j+1)) p j 128).1 v (Ta q.ts (ye v (Q.map PX.ts) (j+1)) p j 128).2 g/\r=.returned (.tuple #[.agg #[.int .i64 g.v,.slice g.A g.n g.c],.int .i64 (Ta q.ts (ye v (Q.map PX.ts) (j+1)) p j 128).1])/\Hp w [g.row] V;exact kQ.o):p:=e ⟨kQ⟩
def ac7{p q:Prop}(kQ:q)(e:KR q->p:=by
 intro kQ;have F:bN b*(bN a/bN b)+bN a % bN b=bN a:=T9 _ _;have m:(bN b:Int)*((bN a/bN b:Nat):Int)+((bN a % bN b:Nat):Int)=(bN a:Int):=by rw[<-F9,<-V8,F]
 revert F m
 exact kQ.o):p:=e ⟨kQ⟩
def dZ{p q:Prop}(kQ:q)(e:KR q->p:=by
 intro kQ;refine fa ?_;refine sv (Ba pa.out rfl (((H.ext I.below).recAt TR.len C).cell (i:=0) rfl)) ?_;exact kQ.o):p:=e ⟨kQ⟩
def dY{p q:Prop}(kQ:q)(e:KR q->p:=by
 intro kQ;refine fa ?_;refine⟨⟨i+1,Z',rfl,I⟩,by show n-(i+1)<n-i;omega, ?_⟩;exact kQ.o):p:=e ⟨kQ⟩
def EY{p q:Prop}(kQ:q)(e:KR q->p:=by
 intro kQ;refine Bb ?_;intro ws I;refine qN (Nc rfl (Mc (vs:=[_,_,_,_,_,_]) pa.out (I.Ra (i:=1) (n:=6) rfl rfl) rfl) Xd) ?_
 revert ws I
 exact kQ.o):p:=e ⟨kQ⟩
def RT{p q:Prop}(kQ:q)(e:KR q->p:=by
 intro kQ;replace I:=I.join h3;simp only[C',F'] at I
 revert I
 exact kQ.o):p:=e ⟨kQ⟩
def CZ{p q:Prop}(kQ:q)(e:KR q->p:=by
 intro kQ;refine Ca func86 ?_;refine yb ?_;intro D y I R v I;refine Vz ?_;refine fa ?_;refine Vz ?_;refine fa ?_;refine sv (N0 rfl rfl Z') ?_;refine fa ?_;refine cI rfl rfl V' ?_;rw[K]
 revert D y R v I
 exact kQ.o):p:=e ⟨kQ⟩
def aae{p q:Prop}(kQ:q)(e:KR q->p:=by
 intro kQ;obtain⟨c,E⟩:=aa (l:=s.data.toList) (k:=k) (by rw[<-Hc];exact D);have F:=c.toNat_lt;by_cases B:c.toNat<128
 .refine fa ?_;refine⟨⟨k+1,Z',rfl,by rw[ja E,gN,hm];simpa using B,rfl⟩,by show s.size-(k+1)<s.size-k;omega, ?_⟩;exact Wb
 revert c E F B
 exact kQ.o):p:=e ⟨kQ⟩
def PY{p q:Prop}(kQ:q)(e:KR q->p:=by
 intro kQ;have hL:=Lq M r X w;have A:U=qe O (λi=>U (dst i)) ds:=EU (f:=λi=>U (dst i)) (λp hp=>by rw[(F p hp).2]) (λs g=>t s λj hj _=>g _ (H j hj)) K;refine Hg m r hL (by have:=AH X;omega) hrd c ?_;have:=Y (λi=>U (dst i)) R Z (λi hi=>J i hi (X i hi)) I
 revert hL A this
 exact kQ.o):p:=e ⟨kQ⟩
def LY{p q:Prop}(kQ:q)(e:KR q->p:=by
 intro kQ;refine fa ?_;refine sv (Ka (vs:=[_,_,_]) pa.out rfl ((H.ext I.below).recAt NR.len M) rfl) ?_;refine yb ?_;intro R b I ws I;refine cd I (jc a _) ?_;intro Y I
 revert R b ws Y I
 exact kQ.o):p:=e ⟨kQ⟩
def wM{p q:Prop}(kQ:q)(e:KR q->p:=by
 intro kQ;refine fa ?_;refine sv (Ba pa.out rfl (I.Rc (i:=2) rfl (by first|assumption|(simp only[X_];assumption)))) ?_;refine fa ?_;exact kQ.o):p:=e ⟨kQ⟩
def VJ{p q:Prop}(kQ:q)(e:KR q->p:=by
 intro kQ;refine fa ?_;refine EP ?_;exact kQ.o):p:=e ⟨kQ⟩
def M0{p q:Prop}(kQ:q)(e:KR q->p:=by
 intro kQ;refine RZ ?_;refine wb ?_;refine dG (Ui (q) ?_);refine wb ?_;exact kQ.o):p:=e ⟨kQ⟩
def YZ{p q:Prop}(kQ:q)(e:KR q->p:=by
 intro kQ;refine dB [_,_,_,_] ?_;refine Wp [_,_,_,_] ?_;refine Fa ?_;intro p_ z;simp only[u',h_,or_false] at z
 revert p_ z
 exact kQ.o):p:=e ⟨kQ⟩
def acq{p q:Prop}(kQ:q)(e:KR q->p:=by
 intro kQ;refine WC.vn λa hf=>wp_region_any hm ?_;simp only[ql,l',h',k9,L_,S_] at hok;obtain⟨⟨⟨⟨⟨⟨⟨⟨⟨⟨⟨⟨⟨hml,_⟩,hds⟩,hnd⟩,hdN⟩,hrd⟩,htail⟩,hready⟩,hend⟩,hdep⟩,hedge⟩,hns⟩,hflo⟩,hM⟩:=hok;have hfl:=λi hi=>mN (hflo i hi)
 revert a hf hml hds hnd hdN hrd htail hready hend hdep hedge hns hflo hM hfl
 exact kQ.o):p:=e ⟨kQ⟩
def acp{p q:Prop}(kQ:q)(e:KR q->p:=by
 intro kQ;refine fa ?_;refine bf 5 (λv V=>∃i:Nat,i<=n/\v=.int .i64 i/\Hp w [] V) (λv _=>n-(intOf v).toNat) ?_ ?_
 .exact⟨0,J' _,rfl,I⟩
 exact kQ.o):p:=e ⟨kQ⟩
def QP{p q:Prop}(kQ:q)(e:KR q->p:=by
 intro kQ;rw[hds,y8,Z8] at hp;obtain⟨⟨x,k⟩,hx,hxe⟩:=hp;rw[List.mem_zipIdx_iff_getElem?] at hx
 revert x k hxe hx
 exact kQ.o):p:=e ⟨kQ⟩
def lZ{p q:Prop}(kQ:q)(e:KR q->p:=by
 intro kQ;refine fa ?_;replace I:=I.sub (G' _ (O' _ (O' _ (O' _ (O' _ (O' _ (O' _ Z_)))))));refine⟨⟨i+1,X,B,Z',rfl,by rw[h];exact I⟩,by show L.m-(i+1)<L.m-i;omega, ?_⟩
 revert I
 exact kQ.o):p:=e ⟨kQ⟩
def ach{p q:Prop}(kQ:q)(e:KR q->p:=by
 intro kQ;refine fa ?_;replace I:=I.sub (G' _ (O' _ Z_));refine⟨⟨i+1,Z',rfl,T, ?_,I⟩,by show n-(i+1)<n-i;omega, ?_⟩
 .rw[hq,ja hp] at g;rw[ja C,hq,ja hp,H_];show Js (ts.take q++[p,x])=true;rw[Az,g,b];rfl
 revert I
 exact kQ.o):p:=e ⟨kQ⟩
def L0{p q:Prop}(kQ:q)(e:KR q->p:=by
 intro kQ;simp only[g9,Prod.mk.injEq] at Y;obtain⟨rfl,rfl⟩:=Y;have M:∃i,P.info? fd.type=some i/\i.size≠0:=by
  unfold Program.cellsOf at E
  cases hi:P.info? fd.type with
  |none=>simp[hi] at E
  |some i=>exact⟨i,rfl,by simpa[hi] using E⟩
 obtain⟨i,hi,N⟩:=M
 revert i hi N
 exact kQ.o):p:=e ⟨kQ⟩
def ac1{p q:Prop}(kQ:q)(e:KR q->p:=by
 intro kQ;refine Ca func195 ?_;refine Bb ?_;intro T q I;refine cd I (K _ (S.hp I) I.below) ?_;intro c I;refine fa ?_
 revert T q c I
 exact kQ.o):p:=e ⟨kQ⟩
def adj{p q:Prop}(kQ:q)(e:KR q->p:=by
 intro kQ;refine Ca func266 ?_;refine Bb ?_;intro T q I;refine cd I (K _ (S.hp I) I.below) ?_;intro a I;refine fa ?_
 revert T q a I
 exact kQ.o):p:=e ⟨kQ⟩
def adN{p q:Prop}(kQ:q)(e:KR q->p:=by
 intro kQ;have J:=GW 9996 s.lo.neg s.lo.neg s.hi.neg s.hi.neg s.lo.Va s.lo.Va s.hi.Va s.hi.Va s.lo.e s.lo.e s.hi.e s.hi.e w;rw[Zk.2 rfl,Zk.2 rfl] at J;have h1:(Op.equal 36 (.agg s.cells.toArray) (.agg s.cells.toArray)).run prog w=.ok true w:=J;simp only[execOp,C,hy]
 revert J h1
 exact kQ.o):p:=e ⟨kQ⟩
def FK{p q:Prop}(kQ:q)(e:KR q->p:=by
 intro kQ;refine Ny (na (cF (Fb (Za (sr (mI (mI ?_)))))));refine Wz ?_;exact kQ.o):p:=e ⟨kQ⟩
def vL{p q:Prop}(kQ:q)(e:KR q->p:=by
 intro kQ;refine sr ?_;refine Wg (na (xa (cT (Fb (Za (xa (td (sr (mI (aI (na ?_)))))))))));exact kQ.o):p:=e ⟨kQ⟩
def YP{p q:Prop}(kQ:q)(e:KR q->p:=by
 intro kQ;refine sv (pb (k:=(n-1-k)) Qa.out pa.size rfl rfl Z' Z') ?_;refine sv (Ba pa.out rfl ((s1.ext I.below).Yr (by assumption))) ?_;exact kQ.o):p:=e ⟨kQ⟩
def aeh{p q:Prop}(kQ:q)(e:KR q->p:=by
 intro kQ;refine Bb ?_;intro ws I;refine dP (Nc rfl (Mc (vs:=[_,_,_,_,_,_]) pa.out (I.Ra (i:=1) (n:=6) rfl rfl) rfl) (Ig (ji rfl) Xd)) ?_
 revert ws I
 exact kQ.o):p:=e ⟨kQ⟩
def K0{p q:Prop}(kQ:q)(e:KR q->p:=by
 intro kQ;refine Ca (l:=[.slice (some b) n c,.pointer (some p)]) func270 ?_;refine fa ?_;refine sv (Ba pa.out rfl (Kb I.below hp)) ?_;refine fa ?_;refine sv (Ka (vs:=[_,_]) pa.out rfl ((H.ext I.below).recAt IR.len M) rfl) ?_;refine cd I (K _) ?_;intro o I
 revert o I
 exact kQ.o):p:=e ⟨kQ⟩
def aeF{p q:Prop}(kQ:q)(e:KR q->p:=by
 intro kQ;simp only[p9,g9,Prod.mk.injEq] at hxe;obtain⟨rfl,rfl⟩:=hxe;exact kQ.o):p:=e ⟨kQ⟩
def acI{p q:Prop}(kQ:q)(e:KR q->p:=by
 intro kQ;refine fa ?_;refine bK ?_;exact kQ.o):p:=e ⟨kQ⟩
def ad3{p q:Prop}(kQ:q)(e:KR q->p:=by
 intro kQ;obtain⟨R,hR⟩:=MH (f:=λx y=>kn x.m y.m) C hy;have hzz:∀e∈((X.take i).flatMap λx=>Q.map λy=>kn x.m y.m)++(Q.take j).map (λy=>kn x.m y.m),e=0:=λe he=>by
  obtain he|he:=O_.1 he
  .exact hz e he
  exact b e he
 revert R hR hzz
 exact kQ.o):p:=e ⟨kQ⟩
def uP{p q:Prop}(kQ:q)(e:KR q->p:=by
 intro kQ;refine Xa I (i:=0) (vs:=[_]) rfl rfl (Xb rfl) rfl pa.out rfl (by rw[ya,ua];omega) rfl ?_;intro ws I;simp only[j'] at I
 revert ws I
 exact kQ.o):p:=e ⟨kQ⟩
def kY{p q:Prop}(kQ:q)(e:KR q->p:=by
 intro kQ;refine sv (Cf rfl rfl) ?_;refine aI (na (sr (mL (mI (mL (mI ?_))))));refine sv (Jp Qa.out pa.size rfl rfl rfl Z') ?_;refine eG ?_;refine mI ?_;exact kQ.o):p:=e ⟨kQ⟩
def cZ{p q:Prop}(kQ:q)(e:KR q->p:=by
 intro kQ;obtain rfl:i=n:=Z';rw[w' Z'] at I;refine fa ?_
 revert I
 exact kQ.o):p:=e ⟨kQ⟩
def TY{p q:Prop}(kQ:q)(e:KR q->p:=by
 intro kQ;obtain⟨s,hs,hstab,hog⟩:=hdo i o hok';rw[U_] at hstab hog;have hrdi:=hrd i E;rw[W,hs] at hrdi;simp only[l',L_] at hrdi
 revert s hs hstab hog hrdi
 exact kQ.o):p:=e ⟨kQ⟩
def PZ{p q:Prop}(kQ:q)(e:KR q->p:=by
 intro kQ;refine sv (Ba pa.out rfl ((s2.ext I.below).Yr (by assumption))) ?_;refine fa ?_;refine sv (Ba pa.out rfl ((s1.ext I.below).Yr (by assumption))) ?_;exact kQ.o):p:=e ⟨kQ⟩
def YY{p q:Prop}(kQ:q)(e:KR q->p:=by
 intro kQ;refine sv (Xk (b:=1) rfl rfl Z') ?_;refine fa ?_;exact kQ.o):p:=e ⟨kQ⟩
def Nr{p q:Prop}(kQ:q)(e:KR q->p:=by
 intro kQ;intro ws I;simp only[j',t_] at I
 revert ws I
 exact kQ.o):p:=e ⟨kQ⟩
def dT{p q:Prop}(kQ:q)(e:KR q->p:=by
 intro kQ;refine fa ?_;rw[g,h,<-r] at I;refine⟨⟨i+1,Z',rfl,I⟩,by show(n-m/64)-(i+1)<(n-m/64)-i;omega, ?_⟩
 revert I
 exact kQ.o):p:=e ⟨kQ⟩
def P0{p q:Prop}(kQ:q)(e:KR q->p:=by
 intro kQ;refine fa ?_;replace I:=I.sub (G' _ (O' _ (O' _ Z_)))
 revert I
 exact kQ.o):p:=e ⟨kQ⟩
def SY{p q:Prop}(kQ:q)(e:KR q->p:=by
 intro kQ;simp only[C',F'] at I;replace I:=I.perm (W_ (l₁:=[_,_,_,_]));simp only[C',F'] at I
 revert I
 exact kQ.o):p:=e ⟨kQ⟩
def aem{p q:Prop}(kQ:q)(e:KR q->p:=by
 intro kQ;refine⟨λ_ _=>trivial, ?_⟩;rw[Y.eval,Lo _ H (λ_ h=>by cases h)];refine⟨λh=>(by cases h), ?_⟩;refine uF (E.mono λe V hR=> ?_);obtain⟨v,rfl,u⟩:=k e V hR;show K (a.put o.dst v) V;rw[T]
 revert v u
 try revert hR
 try revert V
 try revert e
 exact kQ.o):p:=e ⟨kQ⟩
def adG{p q:Prop}(kQ:q)(e:KR q->p:=by
 intro kQ;obtain rfl:n=0:=by simpa using hln.symm
 show Calls _ _ _ _ λr V=>∃g:PX,Gf 0 v (oa [⟨we v,nR 0⟩]) g/\r=.returned (.tuple #[.agg #[.int .i64 g.v,.slice g.A g.n g.c],.int .i64 0])/\Hp w [g.row] V;exact kQ.o):p:=e ⟨kQ⟩
def vY{p q:Prop}(kQ:q)(e:KR q->p:=by
 intro kQ;have g:(18446744073709551616:Nat)=2^64:=by decide
 have a:(256:Nat)=2^8:=by decide
 have hp:256^i=18446744073709551616^(i/8)*2^(i % 8*8):=(by rw[g,a,<-i_,<-i_,<-R_];congr 1;omega)
 revert g a hp
 exact kQ.o):p:=e ⟨kQ⟩
def tZ{p q:Prop}(kQ:q)(e:KR q->p:=by
 intro kQ;refine fa ?_;refine ud 6 I ?_;refine Ma (i:=3) (λU Z hj hR=>Rm (show U 20=Value.int _ _ from hR.1) (show U 22=Value.int _ _ from hR.2.1) Z' Z' Z') ?_;refine wb ?_;exact kQ.o):p:=e ⟨kQ⟩
def A0{p q:Prop}(kQ:q)(e:KR q->p:=by
 intro kQ;refine sr (mI (Bm ?_));refine pj I 0 ?_;refine mI ?_;refine vy ?_;refine sv (pb (k:=m) Qa.out pa.size rfl rfl Z' Z') ?_;refine sv (Ba pa.out rfl ((g _ _ I).tO A)) ?_;refine fa ?_;exact kQ.o):p:=e ⟨kQ⟩
def rZ{p q:Prop}(kQ:q)(e:KR q->p:=by
 intro kQ;refine fa ?_;refine sv (Ka (vs:=[_,_]) pa.out rfl ((hr.ext I.below).recAt FX.len C) rfl) ?_;exact kQ.o):p:=e ⟨kQ⟩
def fK{p q:Prop}(kQ:q)(e:KR q->p:=by
 intro kQ;refine dn ?_;intro W I;refine sv (HY rfl rfl (by first|assumption|omega) (by first|assumption|omega)) ?_
 revert W I
 exact kQ.o):p:=e ⟨kQ⟩
def LZ{p q:Prop}(kQ:q)(e:KR q->p:=by
 intro kQ;have h1:(Op.equal 30 (.agg #[.bool s,.string a,.int .i64 e]) (.agg #[.bool s',.string a',.int .i64 e'])).run prog w=.ok r w:=by rw[<-H];exact rT 9997 s s' a a' e e' w
 simp only[execOp,C,hy]
 revert h1
 exact kQ.o):p:=e ⟨kQ⟩
def aes{p q:Prop}(kQ:q)(e:KR q->p:=by
 intro kQ;rw[hds,y8,Z8];refine⟨(some d,i), ?_,rfl⟩;rw[List.mem_zipIdx_iff_getElem?];exact kQ.o):p:=e ⟨kQ⟩
def VZ{p q:Prop}(kQ:q)(e:KR q->p:=by
 intro kQ;refine fa ?_;refine sv (Ka (vs:=[_,_]) pa.out rfl ((H.ext I.below).recAt PX.len C) rfl) ?_;exact kQ.o):p:=e ⟨kQ⟩
def a0{p q:Prop}(kQ:q)(e:KR q->p:=by
 intro kQ;refine fa ?_;refine sv (Ka (vs:=[_,_]) pa.out rfl ((H.ext I.below).recAt FX.len C) rfl) ?_;exact kQ.o):p:=e ⟨kQ⟩
def D2{p q:Prop}(kQ:q)(e:KR q->p:=by
 intro kQ;have S:i<L.size:=by rw[g.ls,hnn];omega
 have hed':∀o',l.toArray[i]?=some o'->∀e∈o'.after,Region.binds .any e=true->L.getD e.on false=true:=λo' K=>(by rw[W] at K;injection K with K;subst K;exact hed)
 revert S hed'
 exact kQ.o):p:=e ⟨kQ⟩
def BS{p q:Prop}(kQ:q)(e:KR q->p:=by
 intro kQ;refine ub rfl rfl V' (Nf Qa.out pa.size rfl rfl (l:=1) rfl Z' Z') ?_;refine fa ?_;exact kQ.o):p:=e ⟨kQ⟩
def fY{p q:Prop}(kQ:q)(e:KR q->p:=by
 intro kQ;rintro ⟨i,h1,h2,G⟩;by_cases hex:∃i,i<k/\i<m/\L.getD i false=false
 .exact ihk hex
 revert i h1 h2 G hex
 exact kQ.o):p:=e ⟨kQ⟩
def acg{p q:Prop}(kQ:q)(e:KR q->p:=by
 intro kQ;refine fa ?_;refine ub rfl rfl V' (xf (l:=n-1) (h:=n) Qa.out pa.size rfl ⟨_,_,rfl,rfl⟩ ⟨_,_,rfl,rfl⟩ Z' Z') ?_;rw[y,show n-(n-1)=1 by omega];exact kQ.o):p:=e ⟨kQ⟩
def GR{p q:Prop}(kQ:q)(e:KR q->p:=by
 intro kQ;rw[W] at B;simp only[u6] at B;rw[B,Ve (hd1 d B),P' rfl]
 revert B
 exact kQ.o):p:=e ⟨kQ⟩
def N1{p q:Prop}(kQ:q)(e:KR q->p:=by
 intro kQ;refine fa ?_;refine sv (Ka (vs:=[_,_,_]) pa.out rfl ((I.Wc (f:=TR.cells) (x:=t) (l:=G) (i:=1) rfl TR.len V' S).drop 1) rfl) ?_;refine cd I (z _) ?_;intro Q I;refine fa ?_
 revert Q I
 exact kQ.o):p:=e ⟨kQ⟩
def AZ{p q:Prop}(kQ:q)(e:KR q->p:=by
 intro kQ;refine fa ?_;replace I:=I.sub (G' _ (O' _ (O' _ (O' _ Z_))))
 revert I
 exact kQ.o):p:=e ⟨kQ⟩
def wZ{p q:Prop}(kQ:q)(e:KR q->p:=by
 intro kQ;refine mT ?_;refine Jv ?_;refine Jv ?_;exact kQ.o):p:=e ⟨kQ⟩
def bZ{p q:Prop}(kQ:q)(e:KR q->p:=by
 intro kQ;rw[a] at E;refine fa ?_;refine sv (Ka (vs:=[_,_,_,_]) pa.out rfl ((H.ext I.below).recAt TR.len o) rfl) ?_;refine ow ?_;rintro d b ⟨rfl,M⟩;try revert M
 try revert b
 try revert d
 try revert E
 exact kQ.o):p:=e ⟨kQ⟩
def XL{p q:Prop}(kQ:q)(e:KR q->p:=by
 intro kQ;have I:=Hp.start w;have m:=J.sa SR.len V'
 revert I m
 exact kQ.o):p:=e ⟨kQ⟩
def eY{p q:Prop}(kQ:q)(e:KR q->p:=by
 intro kQ;rw[a] at E;refine fa ?_;refine sv (Ka (vs:=[_,_,_]) pa.out rfl ((H.ext I.below).recAt NR.len o) rfl) ?_;refine ow ?_;rintro d b ⟨rfl,M⟩;try revert M
 try revert b
 try revert d
 try revert E
 exact kQ.o):p:=e ⟨kQ⟩
def xZ{p q:Prop}(kQ:q)(e:KR q->p:=by
 intro kQ;refine Xh (Ie (Ie (Ej (Za (sr (mS ?_))))));refine sv (Es Qa.out rfl) ?_;refine mI ?_;refine sv (TB rfl rfl) ?_;refine fa ?_;rw[w' (by rw[<-Hc];omega)] at hm
 revert hm
 exact kQ.o):p:=e ⟨kQ⟩
def adb{p q:Prop}(kQ:q)(e:KR q->p:=by
 intro kQ;simp only[C',F'] at I;replace I:=show Hp w (.row z.A z.n z.c 72 4 (ia TR.cells z.ts)::_) _ from I;have zln:z.ts.length=z.n:=(I.ma (i:=0) rfl).sa TR.len V'
 revert I zln
 exact kQ.o):p:=e ⟨kQ⟩
def EZ{p q:Prop}(kQ:q)(e:KR q->p:=by
 intro kQ;refine Ny (na (cT (sr (mI ?_))));refine sv (ao (s:=16) (m:=65536) rfl rfl V' V') ?_;refine aI (na (Hb (mI ?_)));refine Gi (aI (na (xa (sr (mI ?_)))));exact kQ.o):p:=e ⟨kQ⟩
def O2{p q:Prop}(kQ:q)(e:KR q->p:=by
 intro kQ;rw[d] at E;refine fa ?_;refine sv (Ka (vs:=[_,_]) pa.out rfl ((H.ext I.below).recAt FX.len o) rfl) ?_;refine ow ?_;rintro f e ⟨rfl,M⟩;try revert M
 try revert e
 try revert f
 try revert E
 exact kQ.o):p:=e ⟨kQ⟩
def CY{p q:Prop}(kQ:q)(e:KR q->p:=by
 intro kQ;refine yb ?_;intro j w6 I ws I;refine Ak 5 I ?_;refine wb ?_;refine Ui (i) ?_
 revert j w6 ws I
 exact kQ.o):p:=e ⟨kQ⟩
def adI{p q:Prop}(kQ:q)(e:KR q->p:=by
 intro kQ;refine fa ?_;replace I:=I.sub (G' _ (O' _ Z_));refine⟨⟨i+1,Z',rfl,T,by rw[ja C,h0];rfl,I⟩,by show n-(i+1)<n-i;omega, ?_⟩
 revert I
 exact kQ.o):p:=e ⟨kQ⟩
def eZ{p q:Prop}(kQ:q)(e:KR q->p:=by
 intro kQ;have h1:z.natAbs=y.natAbs*2^j:=by rw[<-f,q9,D8];rfl
 have h2:y.natAbs*1<=y.natAbs*2^j:=D_ _ (N_ Z');have G:Ea y.natAbs<=8*a.size:=Zb Z';rw[Zg]
 revert h1 h2 G
 exact kQ.o):p:=e ⟨kQ⟩
def NZ{p q:Prop}(kQ:q)(e:KR q->p:=by
 intro kQ;refine sr ?_;refine dv I ?_;intro T q I;refine na (xa (sr (mI ?_)));refine Wg (na (cF (Fb (Za (sr (mI ?_))))));refine Wz ?_
 revert T q I
 exact kQ.o):p:=e ⟨kQ⟩
def aad{p q:Prop}(kQ:q)(e:KR q->p:=by
 intro kQ;refine Ca func233 ?_;refine Bb ?_;intro D B I;refine cd I (u _) ?_;intro E I
 revert D B E I
 exact kQ.o):p:=e ⟨kQ⟩
def S1{p q:Prop}(kQ:q)(e:KR q->p:=by
 intro kQ;refine fa ?_;refine cd I (o _ (S.hp I)) ?_;intro E I;refine fa ?_;refine cd I (T _ (S.hp I)) ?_;intro G I;refine fa ?_;replace I:=I.sub (G' _ Z_)
 revert E G I
 exact kQ.o):p:=e ⟨kQ⟩
def RY{p q:Prop}(kQ:q)(e:KR q->p:=by
 intro kQ;obtain⟨x,C⟩:=aa (l:=L.cs) (k:=i) Z';obtain⟨J,P,sC⟩:=Y.nm.at_ Z';have G:Value.slice L.B L.m L.b=.slice (some J) L.m L.b:=by rw[P]
 revert x C J P sC G
 exact kQ.o):p:=e ⟨kQ⟩
def ads{p q:Prop}(kQ:q)(e:KR q->p:=by
 intro kQ;have p1:=n i d hi h1;have p2:=n j d hj h2;have e1:=((Jh (O:=O) (λi=>.int .i64 i) ds d hnd).1 i p1).symm.trans ((Jh (O:=O) (λi=>.int .i64 i) ds d hnd).1 j p2)
 revert p1 p2 e1
 exact kQ.o):p:=e ⟨kQ⟩
def LU{p q:Prop}(kQ:q)(e:KR q->p:=by
 intro kQ;refine sv (Ba pa.out rfl (I.se (i:=0) rfl (by first|assumption|(simp only[X_];assumption)))) ?_;refine fa ?_;exact kQ.o):p:=e ⟨kQ⟩
def nZ{p q:Prop}(kQ:q)(e:KR q->p:=by
 intro kQ;refine sv (Lg (b:=4294967296) rfl rfl) ?_;refine mI ?_;refine sv (Cf rfl rfl) ?_;refine fa ?_;refine sv (Lg rfl rfl) ?_;refine sv (Xk rfl rfl Z') ?_;exact kQ.o):p:=e ⟨kQ⟩
def JZ{p q:Prop}(kQ:q)(e:KR q->p:=by
 intro kQ;refine fa ?_;refine sv (zI rfl rfl Z' (by first|assumption|omega)) ?_;refine fa ?_;refine sv (Lg rfl rfl) ?_;refine sv (Xk rfl rfl Z') ?_;refine fa ?_;exact kQ.o):p:=e ⟨kQ⟩
def oZ{p q:Prop}(kQ:q)(e:KR q->p:=by
 intro kQ;refine fa ?_;refine cdC I (yr a _ Z') rfl ?_;intro d I;rw[j];refine fa ?_;refine cdC I (Ho b _ _ Z') rfl ?_;intro E I;rw[n];refine fa ?_
 revert d E I
 exact kQ.o):p:=e ⟨kQ⟩
def adz{p q:Prop}(kQ:q)(e:KR q->p:=by
 intro kQ;have e:a i=V:=by rw[z i Z',uK]
 refine⟨a,λj hj=>by rw[z j Z',bD _ _ Z'],⟨⟨?_, ?_⟩,b⟩,L⟩
 .rw[e];exact h1
 revert e
 exact kQ.o):p:=e ⟨kQ⟩
open Go.RowKit
abbrev Rf:=Nat->Value
def jd(O:Rf)(d:Nat)(v:Value):Rf:=λi=>bif Nat.beq i d then v else O i
def ev(O:Rf):Operand->Value
 |.tmp t=>O t
 |.const v=>v
 |.global g=>.pointer (some ⟨g,0,none⟩)
 |.func f=>.func (.func f) #[] #[]
structure kg(N:Nat)(D:List Deferred)(a:Act)(O:Rf):Prop where
 nd:a.defers=D
 sz:a.tmps.size=N
 at_:∀i,a.tmps.getD i undef=O i
abbrev Fits(N:Nat)(a:Act)(O:Rf):Prop:=kg N [] a O
def kg.eval{N:Nat}{D:List Deferred}{a:Act}{O:Rf}(h:kg N D a O):a.eval=ev O:=by
 funext x
 cases x with
 |tmp t=>exact h.at_ t
 |_=>rfl
def ur(O:Rf)(d:Nat)(v:Value):jd O d v d=v:=by simp[jd]
def Dh(O:Rf){d i:Nat}(h:i≠d)(v:Value):jd O d v i=O i:=by
 have F:Nat.beq i d=false:=by
  cases F:Nat.beq i d
  .rfl
  exact absurd (Nat.eq_of_beq_eq_true F) h
 simp only[jd,F,cond_false]
def kg.put{N:Nat}{D:List Deferred}{a:Act}{O:Rf}(h:kg N D a O){d:Nat}(T:d<N)(v:Value):kg N D (a.put (some d) v) (jd O d v):=by
 refine⟨h.nd,by simp[Act.put,h.sz],λi=> ?_⟩;by_cases hi:i=d
 .subst hi;rw[ur];simp[Act.put,h.sz,T]
 rw[Dh O hi,<-h.at_ i];have:d≠i:=λe=>hi e.symm;simp[Act.put,Array.getElem?_setIfInBounds_ne this]
abbrev Kq:=Exit->Rf->World->Prop
def Lf(N:Nat)(D:List Deferred)(Q:Kq):Exit->Act->World->Prop:=λe a w=>∃O,kg N D a O/\Q e O w
abbrev lift(N:Nat)(Q:Kq):Exit->Act->World->Prop:=Lf N [] Q
structure Mode where
 round:Option Nat:=none
 D:List Deferred:=[]
 any:Bool:=false
abbrev Mode.plain:Mode:={}
def FW(ro:Option Nat):Fence:={ Fence.wide with round:=ro }
structure WC(ro:Mode)(P:Program)(N:Nat)(c:Code)(Q:Kq)(O:Rf)(w:World):Prop where
 um:ro.any=false->∀a,kg N ro.D a O->c.wp P (Lf N ro.D Q) a w
 Qo:∀a,kg N ro.D a O->∀n,c.wpIn (FW ro.round) n P (Lf N ro.D Q) a w
structure WL(ro:Mode)(P:Program)(N:Nat)(ops:Array Oper)(Q:Kq)(l:List Oper)(O:Rf)(w:World):Prop where
 um:ro.any=false->∀a,kg N ro.D a O->wpList P ops (Lf N ro.D Q) l a w
 Qo:∀a,kg N ro.D a O->∀n,wpListIn (FW ro.round) n P ops (Lf N ro.D Q) l a w
def Nd(next:Rf->World->Prop)(Q:Kq):Kq
 |.normal,O,w=>next O w
 |e,O,w=>Q e O w
def Rp(id:Nat)(Q:Kq):Kq
 |.exit b,O,w=>if b=id then Q .normal O w else Q (.exit b) O w
 |e,O,w=>Q e O w
variable {P:Program}{N:Nat}{Q:Kq}{O:Rf}{w:World}
def WC.vn{D:List Deferred}{c:Code}(h:∀a,kg N D a O->c.wp P (Lf N D Q) a w):WC ⟨none,D,false⟩ P N c Q O w:=⟨λ_=>h,λa Y _=>wpIn_wide.2 (h a Y)⟩
def WC.out{D:List Deferred}{c:Code}(h:WC ⟨none,D,false⟩ P N c Q O w):∀a,kg N D a O->c.wp P (Lf N D Q) a w:=h.um rfl
def WL.out{D:List Deferred}{ops:Array Oper}{l:List Oper}(h:WL ⟨none,D,false⟩ P N ops Q l O w):∀a,kg N D a O->wpList P ops (Lf N D Q) l a w:=h.um rfl
def OA{D:List Deferred}{Q b:Kq}(h:∀e O w,Q e O w->b e O w)(e:Exit)(a:Act)(w:World):Lf N D Q e a w->Lf N D b e a w:=
 λ⟨O,Y,R⟩=>⟨O,Y,h _ _ _ R⟩
variable {ro:Mode}
def WC.mono{c:Code}{b:Kq}(h:WC ro P N c Q O w)(R:∀e O w,Q e O w->b e O w):WC ro P N c b O w:=
 ⟨λhm a Y=>wp_mono (h.um hm a Y) (OA R),λa Y n=>wpIn_mono (h.Qo a Y n) (OA R)⟩
def xa{x y:Code}(h:WC ro P N x (Nd (λO w=>WC ro P N y Q O w) Q) O w):WC ro P N (.seq x y) Q O w:=
 ⟨λhm a Y=>wp_seq (wp_mono (h.um hm a Y) λe a' V ⟨ρ',T,R⟩=>by
  cases e with
  |normal=>exact R.um hm a' T
  |_=>exact⟨ρ',T,R⟩),
 λa Y n=>wpIn_seq (wpIn_mono (h.Qo a Y n) λe a' V ⟨ρ',T,R⟩=>by
  cases e with
  |normal=>exact R.Qo a' T n
  |_=>exact⟨ρ',T,R⟩)⟩
def Fb(h:Q .normal O w):WC ro P N .skip Q O w:=⟨λ_ _ Y=>wp_skip ⟨O,Y,h⟩,λ_ Y _=>wpIn_skip ⟨O,Y,h⟩⟩
def Gj(h:Q .ret O w):WC ro P N .ret Q O w:=⟨λ_ _ Y=>wp_ret ⟨O,Y,h⟩,λ_ Y _=>wpIn_ret ⟨O,Y,h⟩⟩
def Xh{id:Nat}(h:Q (.exit id) O w):WC ro P N (.exit id) Q O w:=⟨λ_ _ Y=>wp_exit ⟨O,Y,h⟩,λ_ Y _=>wpIn_exit ⟨O,Y,h⟩⟩
def MU{l:Nat}(h:Q .normal O w):WC ro P N (.label l) Q O w:=⟨λ_ _ Y=>wp_label ⟨O,Y,h⟩,λ_ Y _=>wpIn_label ⟨O,Y,h⟩⟩
def td{id:Nat}{c:Code}(h:WC ro P N c (Rp id Q) O w):WC ro P N (.block id c) Q O w:=
 have key:∀(D:List Deferred) e a' V,Lf N D (Rp id Q) e a' V->Exit.inBlock id (Lf N D Q) e a' V:=λD e a' V ⟨ρ',T,R⟩=>by
  cases e with
  |exit b=>
   by_cases j:b=id
   .simp only[Rp,j,if_true] at R;simp only[Exit.inBlock,j,if_true];exact⟨ρ',T,R⟩
   simp only[Rp,j,if_false] at R;simp only[Exit.inBlock,j,if_false];exact⟨ρ',T,R⟩
  |_=>exact⟨ρ',T,R⟩
 ⟨λhm a Y=>wp_block (wp_mono (h.um hm a Y) (key _)),λa Y n=>wpIn_block (wpIn_mono (h.Qo a Y n) (key _))⟩
def kO{c:Operand}{x y:Code}(E:ev O c=.bool true)(h:WC ro P N x Q O w):WC ro P N (.cond c x y) Q O w:=
 ⟨λhm a Y=>wp_cond_true (by rw[Y.eval];exact E) (h.um hm a Y),λa Y n=>wpIn_cond_true (by rw[Y.eval];exact E) (h.Qo a Y n)⟩
def XM{c:Operand}{x y:Code}(E:ev O c=.bool false)(h:WC ro P N y Q O w):WC ro P N (.cond c x y) Q O w:=
 ⟨λhm a Y=>wp_cond_false (by rw[Y.eval];exact E) (h.um hm a Y),λa Y n=>wpIn_cond_false (by rw[Y.eval];exact E) (h.Qo a Y n)⟩
def Hb{id:Nat}{l:List Oper}(h:WL ro P N l.toArray Q l O w):WC ro P N (.region id l.toArray false) Q O w:=
 ⟨λhm a Y=>wp_region_lit (h.um hm a Y),λa Y n=>wpIn_region_lit (h.Qo a Y n)⟩
def Za{next:Rf->World->Prop}(h:next O w):Nd next Q .normal O w:=h
def Ut{next:Rf->World->Prop}(h:Q .ret O w):Nd next Q .ret O w:=h
def Ie{next:Rf->World->Prop}{id:Nat}(h:Q (.exit id) O w):Nd next Q (.exit id) O w:=h
def Ep{id:Nat}(h:Q .normal O w):Rp id Q .normal O w:=h
def OP{id:Nat}(h:Q .ret O w):Rp id Q .ret O w:=h
def Ej{id:Nat}(h:Q .normal O w):Rp id Q (.exit id) O w:=by simpa[Rp] using h
def abc{id b:Nat}(E:b≠id)(h:Q (.exit b) O w):Rp id Q (.exit b) O w:=by simpa[Rp,E] using h
def mask(mods:List Nat)(ρ' O:Rf):Rf:=λi=>bif mods.contains i then ρ' i else O i
def Sf(mods:List Nat)(U O:Rf):Prop:=∀i,mods.contains i=false->U i=O i
def Ke(mods:List Nat)(ρ' O:Rf):Sf mods (mask mods ρ' O) O:=λi hi=>by simp only[mask,hi,cond_false]
def oc{mods:List Nat}{U O:Rf}{d:Nat}{v:Value}(T:mods.contains d=true)(h:Sf mods U O):Sf mods (jd U d v) O:=λi hi=>by
 rw[Dh U (λe=>by rw[e,T] at hi;cases hi)];exact h i hi
def pe{mods a:List Nat}{ρ' U O:Rf}(hm:(a.all λi=>mods.contains i)=true)(h:Sf mods U O):Sf mods (mask a ρ' U) O:=λi hi=>by
 have h2:a.contains i=false:=by
  cases E:a.contains i with
  |false=>rfl
  |true=>
   have:=L_.1 hm i (by simpa using E);rw[this] at hi;cases hi
 simp only[mask,h2,cond_false];exact h i hi
def T'{p:Prop}(h:p:=by repeat (first|exact Ke _ _ _|refine oc rfl ?_|refine pe rfl ?_)):p:=h
def S'{p:Prop}(h:p:=by(repeat (first|exact Ke _ _ _|refine oc rfl ?_|refine pe rfl ?_));exact λ_ _=>rfl):p:=h
def Fg{mods:List Nat}{U O:Rf}(h:Sf mods U O):mask mods U O=U:=by
 funext i;simp only[mask]
 cases E:mods.contains i with
 |true=>rfl
 |false=>simpa using(h i E).symm
def Ae(O:Rf)(d:Nat):jd O d (O d)=O:=by
 funext i;by_cases h:i=d
 .subst h;rw[ur]
 rw[Dh O h]
def Jr{c:Code}(I:Rf->World->Prop)(X:Rf->World->Nat)(J:I O w) (round:∀O w,I O w->WC ro P N c (Nd (λρ' V=>I ρ' V/\X ρ' V<X O w) Q) O w):WC ro P N (.loop c) Q O w:=by
 refine⟨λhm a Y=> ?_,λa Y n=> ?_⟩
 .refine wp_loop (λa w=>∃O,kg N ro.D a O/\I O w) (λa w=>X (λi=>a.tmps.getD i undef) w) ⟨O,Y,J⟩ ?_;rintro a w ⟨O,Y,hi⟩;refine wp_mono ((round O w hi).um hm a Y) ?_;exact aey
 refine wpIn_loop (λa w=>∃O,kg N ro.D a O/\I O w) (λa w=>X (λi=>a.tmps.getD i undef) w) ⟨O,Y,J⟩ ?_;rintro a w ⟨O,Y,hi⟩;refine wpIn_mono ((round O w hi).Qo a Y n) ?_;exact aey
def Dx{c:Code}(mods:List Nat)(I:World->Prop)(X:World->Nat)(J:I  w) (round:∀ρ' V,I  V->WC ro P N c (Nd (λK q=>I  q/\X  q<X  V/\Sf mods K O) Q) (mask mods ρ' O) V):WC ro P N (.loop c) Q O w:=
 Jr (λU Z=>I  Z/\Sf mods U O) (λU Z=>X  Z) ⟨J,λ_ _=>rfl⟩ λU Z ⟨hi,M⟩=>by
  have h:=round U  Z hi;rw[Fg M] at h;exact h.mono λe K q R=>by
   cases e with
   |normal=>exact⟨⟨R.1,R.2.2⟩,R.2.1⟩
   |_=>exact R
def TU{c:Code}(mods:List Nat)(s0:Nat)(I:Value->World->Prop)(X:Value->World->Nat)(J:I (O s0) w) (round:∀ρ' v0 V,I v0 V->WC ro P N c (Nd (λK q=>I (K s0) q/\X (K s0) q<X v0 V/\Sf mods K O) Q) (jd (mask mods ρ' O) s0 v0) V):WC ro P N (.loop c) Q O w:=
 Jr (λU Z=>I (U s0) Z/\Sf mods U O) (λU Z=>X (U s0) Z) ⟨J,λ_ _=>rfl⟩ λU Z ⟨hi,M⟩=>by
  have h:=round U (U s0) Z hi;rw[Fg M,Ae] at h;exact h.mono λe K q R=>by
   cases e with
   |normal=>exact⟨⟨R.1,R.2.2⟩,R.2.1⟩
   |_=>exact R
def VU{c:Code}(mods:List Nat)(s0 s1:Nat)(I:Value->Value->World->Prop)(X:Value->Value->World->Nat)(J:I (O s0) (O s1) w) (round:∀ρ' v0 v1 V,I v0 v1 V->WC ro P N c (Nd (λK q=>I (K s0) (K s1) q/\X (K s0) (K s1) q<X v0 v1 V/\Sf mods K O) Q) (jd (jd (mask mods ρ' O) s0 v0) s1 v1) V):WC ro P N (.loop c) Q O w:=
 Jr (λU Z=>I (U s0) (U s1) Z/\Sf mods U O) (λU Z=>X (U s0) (U s1) Z) ⟨J,λ_ _=>rfl⟩ λU Z ⟨hi,M⟩=>by
  have h:=round U (U s0) (U s1) Z hi;rw[Fg M,Ae,Ae] at h;exact h.mono λe K q R=>by
   cases e with
   |normal=>exact⟨⟨R.1,R.2.2⟩,R.2.1⟩
   |_=>exact R
def Hw{c:Code}(mods:List Nat)(s0 s1 s2:Nat)(I:Value->Value->Value->World->Prop)(X:Value->Value->Value->World->Nat)(J:I (O s0) (O s1) (O s2) w) (round:∀ρ' v0 v1 v2 V,I v0 v1 v2 V->WC ro P N c (Nd (λK q=>I (K s0) (K s1) (K s2) q/\X (K s0) (K s1) (K s2) q<X v0 v1 v2 V/\Sf mods K O) Q) (jd (jd (jd (mask mods ρ' O) s0 v0) s1 v1) s2 v2) V):WC ro P N (.loop c) Q O w:=
 Jr (λU Z=>I (U s0) (U s1) (U s2) Z/\Sf mods U O) (λU Z=>X (U s0) (U s1) (U s2) Z) ⟨J,λ_ _=>rfl⟩ λU Z ⟨hi,M⟩=>by
  have h:=round U (U s0) (U s1) (U s2) Z hi;rw[Fg M,Ae,Ae,Ae] at h;exact h.mono λe K q R=>by
   cases e with
   |normal=>exact⟨⟨R.1,R.2.2⟩,R.2.1⟩
   |_=>exact R
def PT{c:Code}(mods:List Nat)(s0 s1 s2 s3:Nat)(I:Value->Value->Value->Value->World->Prop)(X:Value->Value->Value->Value->World->Nat)(J:I (O s0) (O s1) (O s2) (O s3) w) (round:∀ρ' v0 v1 v2 y V,I v0 v1 v2 y V->WC ro P N c (Nd (λK q=>I (K s0) (K s1) (K s2) (K s3) q/\X (K s0) (K s1) (K s2) (K s3) q<X v0 v1 v2 y V/\Sf mods K O) Q) (jd (jd (jd (jd (mask mods ρ' O) s0 v0) s1 v1) s2 v2) s3 y) V):WC ro P N (.loop c) Q O w:=
 Jr (λU Z=>I (U s0) (U s1) (U s2) (U s3) Z/\Sf mods U O) (λU Z=>X (U s0) (U s1) (U s2) (U s3) Z) ⟨J,λ_ _=>rfl⟩ λU Z ⟨hi,M⟩=>by
  have h:=round U (U s0) (U s1) (U s2) (U s3) Z hi;rw[Fg M,Ae,Ae,Ae,Ae] at h;exact h.mono λe K q R=>by
   cases e with
   |normal=>exact⟨⟨R.1,R.2.2⟩,R.2.1⟩
   |_=>exact R
inductive UR(P:Program)(O:Rf)(w:World):ResultVar->Value->Prop
 |tmp (t:Tmp) {v:Value} (h:O t=v):UR P O w (.tmp t) v
 |cell (p:Tmp) (t:TypeId) {a:Addr}{v:Value} (hp:O p=.pointer (some a)) (h:(loadVar t a).run P w=.ok v w):UR P O w (.cell p t) v
def Kh(P:Program)(O:Rf)(w:World):List ResultVar->List Value->Prop
 |[],[]=>True
 |r::rs,v::vs=>UR P O w r v/\Kh P O w rs vs
 |_,_=>False
def CD:List Value->Value
 |[v]=>v
 |vs=>.tuple vs.toArray
def Cm(P:Program)(fn:Func)(R:Ending->World->Prop):Kq:=λe O w=>
 (e=.normal\/e=.ret)/\∃v,(∀tmps:Array Value,(∀i,tmps.getD i undef=O i)->(results fn tmps).run P w=.ok v w)/\R (.returned v) w
def ZL{P:Program}{O:Rf}{w:World}{f:ResultVar->Sem Value}(h1:∀t,(f (.tmp t)).run P w=.ok (O t) w) (h2:∀p t a v,O p=.pointer (some a)->(loadVar t a).run P w=.ok v w->(f (.cell p t)).run P w=.ok v w):∀(rs:List ResultVar)(vs:List Value),Kh P O w rs vs->(rs.mapM f).run P w=.ok vs w
 |[],[],_=>by simp
 |[],_::_,h=>h.elim
 |_::_,[],h=>h.elim
 |r::rs,v::vs,h=>by
  have W:=ZL h1 h2 rs vs h.2;obtain⟨G,_⟩:=h;rw[List.mapM_cons]
  cases G with
  |tmp t A=>rw[Sem.run_bind,h1,Result.andThen_ok,Sem.run_bind,W,Result.andThen_ok,Sem.run_pure,A]
  |cell p t hp Q=>rw[Sem.run_bind,h2 _ _ _ _ hp Q,Result.andThen_ok,Sem.run_bind,W,Result.andThen_ok,Sem.run_pure]
def Ql{P:Program}{fn:Func}{R:Ending->World->Prop}{O:Rf}{w:World}{rs:List ResultVar}{vs:List Value}{e:Exit}(he:e=.normal\/e=.ret)(H:fn.results=rs.toArray) (A:Kh P O w rs vs)(h:R (.returned (CD vs)) w):Cm P fn R e O w:=by
 refine⟨he,CD vs,λtmps S=> ?_,h⟩;unfold results;rw[H,Sem.run_bind,List.mapM_toArray,Sem.run_map,ZL (O:=O) (λt=>by simp[S]) (λp t a v hp Q=>by simp[S,hp,asAddr,Q]) rs vs A];simp only[Result.andThen_ok]
 match vs with
 |[]=>simp[CD]
 |[v]=>simp[CD]
 |_::_::_=>simp[CD]
def Xd{P:Program}{O:Rf}{w:World}:Kh P O w [] []:=trivial
def Ig{P:Program}{O:Rf}{w:World}{t:Tmp}{v:Value}{rs:List ResultVar}{vs:List Value}(h:O t=v)(k:Kh P O w rs vs):Kh P O w (.tmp t::rs) (v::vs):=⟨.tmp t h,k⟩
def Nc{P:Program}{O:Rf}{w:World}{p:Tmp}{t:TypeId}{a:Addr}{v:Value}{rs:List ResultVar}{vs:List Value}(hp:O p=.pointer (some a))(h:(loadVar t a).run P w=.ok v w)(k:Kh P O w rs vs):Kh P O w (.cell p t::rs) (v::vs):=⟨.cell p t hp h,k⟩
def ae8{P:Program}{fn:Func}{R:Ending->World->Prop}{O:Rf}{w:World}{t:Tmp}{e:Exit}{v:Value}(he:e=.normal\/e=.ret)(H:fn.results= #[.tmp t])(A:O t=v)(h:R (.returned v) w):Cm P fn R e O w:=
 Ql he H (Ig A Xd) h
def af7{P:Program}{fn:Func}{R:Ending->World->Prop}{O:Rf}{w:World}{t u:Tmp}{e:Exit}{v x:Value}(he:e=.normal\/e=.ret)(H:fn.results= #[.tmp t,.tmp u])(A:O t=v)(C:O u=x)(h:R (.returned (.tuple #[v,x])) w):Cm P fn R e O w:=
 Ql he H (Ig A (Ig C Xd)) h
def af2{P:Program}{fn:Func}{R:Ending->World->Prop}{O:Rf}{w:World}{t u s:Tmp}{e:Exit}{v x y:Value}(he:e=.normal\/e=.ret)(H:fn.results= #[.tmp t,.tmp u,.tmp s])(A:O t=v)(C:O u=x)(hy:O s=y)(h:R (.returned (.tuple #[v,x,y])) w):Cm P fn R e O w:=
 Ql he H (Ig A (Ig C (Ig hy Xd))) h
def afb{P:Program}{fn:Func}{R:Ending->World->Prop}{O:Rf}{w:World}{e:Exit}(he:e=.normal\/e=.ret)(H:fn.results= #[])(h:R (.returned (.tuple #[])) w):Cm P fn R e O w:=
 Ql he H Xd h
def adR{P:Program}{fn:Func}{R:Ending->World->Prop}{O:Rf}{w:World}{r:ResultVar}{e:Exit}{v:Value}(he:e=.normal\/e=.ret)(H:fn.results= #[r])(h1:Kh P O w [r] [v])(h:R (.returned v) w):Cm P fn R e O w:=
 Ql he H h1 h
def aeg{P:Program}{fn:Func}{R:Ending->World->Prop}{O:Rf}{w:World}{r s:ResultVar}{e:Exit}{v x:Value}(he:e=.normal\/e=.ret)(H:fn.results= #[r,s])(h1:Kh P O w [r,s] [v,x])(h:R (.returned (.tuple #[v,x])) w):Cm P fn R e O w:=
 Ql he H h1 h
def aek{P:Program}{fn:Func}{R:Ending->World->Prop}{O:Rf}{w:World}{r s t:ResultVar}{e:Exit}{v x y:Value}(he:e=.normal\/e=.ret)(H:fn.results= #[r,s,t])(h1:Kh P O w [r,s,t] [v,x,y])(h:R (.returned (.tuple #[v,x,y])) w):Cm P fn R e O w:=
 Ql he H h1 h
def VQ(l:List Value):Rf:=λi=>l.getD i undef
def mR{P:Program}{f:FuncId}{fn:Func}{c:Code}{N:Nat}{l:List Value}{w:World}{R:Ending->World->Prop} (Y:P.funcs[f]?=some fn)(F:fn.body=some c)(B:fn.ntmps=N)(M:l.length<=N) (h:WC .plain P N c (Cm P fn R) (VQ l) w):Calls P f l.toArray w R:=by
 refine calls_of_wp Y F ?_;refine wp_mono (h.out _ ⟨rfl,by simp[B];omega,λi=> ?_⟩) ?_
 .simp only[VQ];obtain hi|hi:=o_ i l.length
  .rw[U9,Array.getElem?_append_left (by simpa using hi)];simp[X9]
  rw[U9,Array.getElem?_append_right (by simpa using hi)];simp only[X9,K_ hi,Option.getD_none,T5];split<;>rfl
 rintro e a V ⟨ρ',T,he,v,H,hR⟩;obtain rfl|rfl:=he<;>exact⟨T.nd,v,H _ T.at_,hR⟩
def Lo{f:Operand->Value}{o:Oper}{x:Next}{V:World}(ro:Option Nat)(h:(execOp f o).run P w=.ok x V)(C:∀d,x≠.defer d):(o.semAt ro f).run P w=.ok x V:=by
 cases X:o.op with
 |defer c=>
  exfalso;unfold execOp at h;rw[X] at h;simp only[Sem.run_bind] at h
  cases h2:(resolve f c o.type).run P w with
  |ok v q=>
   rw[h2] at h;simp at h;exact C _ h.1.symm
  |halt e q=>
   rw[h2] at h;simp[Result.andThen] at h
 |_=>rw[Oper.semAt_eq _ _ _ (by rw[X];intro c E;cases E)];exact h
def uF{M:Option Nat}{n:Nat}{f:FuncId}{args:Array Value}{R:Ending->World->Prop}(h:Calls P f args w R):CallsIn (FW M) n P f args w R:=(callsIn_wide (n:=n)).2 h
variable {ops:Array Oper}
def Zi(h:Q .normal O w):WL ro P N ops Q [] O w:=⟨λ_ _ Y=>wpList_nil ⟨O,Y,h⟩,λ_ Y _=>wpListIn_nil ⟨O,Y,h⟩⟩
def na{next:Rf->World->Prop}{b:Kq}(h:next O w):WL ro P N ops (Nd next b) [] O w:=Zi h
variable {rest:List Oper}
def ub{o:Oper}{d:Nat}{v:Value}{V:World}(s:o.guard=none)(T:o.dst=some d)(L:d<N) (H:(execOp (ev O) o).run P w=.ok (.value v) V)(k:WL ro P N ops Q rest (jd O d v) V):WL ro P N ops Q (o::rest) O w:=
 ⟨λhm a Y=>wpList_plain s λK y=>by
  unfold Oper.wp;rw[Y.eval,H];show K (a.put o.dst v) V;rw[T];exact y _ _ (k.um hm _ (Y.put L v)),
 λa Y n=>wpListIn_plain s λK y=>by
  refine⟨λ_ _=>trivial, ?_⟩;rw[Y.eval,Lo _ H (λ_ h=>by cases h)];show K (a.put o.dst v) V;rw[T];exact y _ _ (k.Qo _ (Y.put L v) n)⟩
def EM{o:Oper}{V:World}(s:o.guard=none)(T:o.dst=none) (H:(execOp (ev O) o).run P w=.ok .skip V)(k:WL ro P N ops Q rest O V):WL ro P N ops Q (o::rest) O w:=
 ⟨λhm a Y=>wpList_plain s λK y=>by
  unfold Oper.wp;rw[Y.eval,H];show K (a.put o.dst undef) V;rw[T];exact y _ _ (k.um hm _ Y),
 λa Y n=>wpListIn_plain s λK y=>by
  refine⟨λ_ _=>trivial, ?_⟩;rw[Y.eval,Lo _ H (λ_ h=>by cases h)];show K (a.put o.dst undef) V;rw[T];exact y _ _ (k.Qo _ Y n)⟩
theorem yG{o:Oper}{d:Nat}{f:FuncId}{args:Array Value}{Z:World}{R:Ending->World->Prop}(s:o.guard=none)(T:o.dst=some d)(L:d<N) (H:(execOp (ev O) o).run P w=.ok (.enter f args) Z)(E:Calls P f args Z R) (k:∀e V,R e V->∃v,e=.returned v/\WL ro P N ops Q rest (jd O d v) V):WL ro P N ops Q (o::rest) O w:=
 ⟨λhm a Y=>wpList_plain s λK y=>by
  unfold Oper.wp;rw[Y.eval,H];show Calls P f args Z _;refine E.mono λe V hR=> ?_;obtain⟨v,rfl,u⟩:=k e V hR;show K (a.put o.dst v) V;rw[T];exact y _ _ (u.um hm _ (Y.put L v)),
 λa Y n=>wpListIn_plain s λK y=>by
  refine aem ?_;(unhygienic intros)
  exact y _ _ (u.Qo _ (Y.put L v) n)⟩
def Oe{d:Option Nat}{op:Op}{ty:TypeId}{pos:String}{af:Array Edge}{j g:Nat}{b:Bool} (hj:(ops[j]?).bind (·.dst)=some g)(A:O g=.bool b)(k:WL ro P N ops Q (⟨d,op,ty,pos,af,none⟩::rest) O w):
  WL ro P N ops Q (⟨d,op,ty,pos,af,some (j,b)⟩::rest) O w:=
 have J:∀D a,kg N D a O->Region.wanted ⟨d,op,ty,pos,af,some (j,b)⟩ (yielded ops a.tmps)=true:=λD a Y=>by
  have h2:=Y.at_ g;rw[A,U9] at h2
  cases G:a.tmps[g]? with
  |none=>rw[G] at h2;cases h2
  |some x=>
   rw[G] at h2;simp only[J9] at h2;subst h2;simp[Region.wanted,yielded,hj,G]
 ⟨λhm a Y=>by
  have h2:=k.um hm a Y;unfold wpList at h2 |-;rw[P' (J _ a Y)];rw[P' (by simp[Region.wanted])] at h2;exact h2,
 λa Y n=>by
  have h2:=k.Qo a Y n;unfold wpListIn at h2 |-;rw[P' (J _ a Y)];rw[P' (by simp[Region.wanted])] at h2;exact h2⟩
def qk{d:Nat}{op:Op}{ty:TypeId}{pos:String}{af:Array Edge}{j g:Nat}{b c:Bool}(L:d<N) (hj:(ops[j]?).bind (·.dst)=some g)(A:O g=.bool c)(F:c≠b)(k:WL ro P N ops Q rest (jd O d undef) w):
  WL ro P N ops Q (⟨some d,op,ty,pos,af,some (j,b)⟩::rest) O w:=
 have J:∀D a,kg N D a O->Region.wanted ⟨some d,op,ty,pos,af,some (j,b)⟩ (yielded ops a.tmps)=false:=λD a Y=>by
  have h2:=Y.at_ g;rw[A,U9] at h2
  cases G:a.tmps[g]? with
  |none=>rw[G] at h2;cases h2
  |some x=>
   rw[G] at h2;simp only[J9] at h2;subst h2;simp[Region.wanted,yielded,hj,G,F]
 ⟨λhm a Y=>by
  unfold wpList;rw[J _ a Y];exact k.um hm _ (Y.put L undef),
 λa Y n=>by
  unfold wpListIn;rw[J _ a Y];exact⟨λ_ _=>trivial,k.Qo _ (Y.put L undef) n⟩⟩
def nb(v:Value)(b:Bool):Bool:=match v with|.bool c=>c !=b|_=>true
def iw{d:Nat}{op:Op}{ty:TypeId}{pos:String}{af:Array Edge}{j g:Nat}{b:Bool}(L:d<N) (hj:(ops[j]?).bind (·.dst)=some g)(F:nb (O g) b=true)(k:WL ro P N ops Q rest (jd O d undef) w):
  WL ro P N ops Q (⟨some d,op,ty,pos,af,some (j,b)⟩::rest) O w:=by
 cases A:O g with
 |bool c=>
  rw[A] at F;exact qk L hj A (by simpa[nb] using F) k
 |_=>
  have J:∀D a,kg N D a O->Region.wanted ⟨some d,op,ty,pos,af,some (j,b)⟩ (yielded ops a.tmps)=false:=λD a Y=>by
   have h2:=Y.at_ g;rw[A,U9] at h2
   cases G:a.tmps[g]? with
   |none=>simp[Region.wanted,yielded,hj,G]
   |some x=>
    rw[G] at h2;simp only[J9] at h2;subst h2;simp[Region.wanted,yielded,hj,G]
  refine⟨λhm a Y=> ?_,λa Y n=> ?_⟩
  .unfold wpList;rw[J _ a Y];exact k.um hm _ (Y.put L undef)
  unfold wpListIn;rw[J _ a Y];exact⟨λ_ _=>trivial,k.Qo _ (Y.put L undef) n⟩
variable {d:Option Nat}{ty:TypeId}{pos:String}{af:Array Edge}{g:Option (Nat×Bool)}
def Ib{x:Operand}{v:Value}(C:ev O x=v):(execOp (ev O) ⟨d,.move x,ty,pos,af,g⟩).run P w=.ok (.value v) w:=by simp[execOp,C]
def rn{x:Operand}{v:Value}(C:ev O x=v):(execOp (ev O) ⟨d,.assign x,ty,pos,af,g⟩).run P w=.ok (.value v) w:=by simp[execOp,C]
def eF{c a b:Operand}{v:Value}(E:ev O c=.bool true)(C:ev O a=v):(execOp (ev O) ⟨d,.pick c a b,ty,pos,af,g⟩).run P w=.ok (.value v) w:=by simp[execOp,asBool,E,C]
def lG{c a b:Operand}{v:Value}(E:ev O c=.bool false)(C:ev O b=v):(execOp (ev O) ⟨d,.pick c a b,ty,pos,af,g⟩).run P w=.ok (.value v) w:=by simp[execOp,asBool,E,C]
variable {t u:TypeId}{x y:Operand}{k:IntKind}{a b:Int}
def P2(C:ev O x=.int k a)(hy:ev O y=.int k b):(execOp (ev O) ⟨d,.binOp .add t x y u,ty,pos,af,g⟩).run P w=.ok (.value (.int k (k.wrap (a+b)))) w:=by
 simp[execOp,C,hy,eqGuard,binOp,Op.intArith]
def MY(C:ev O x=.int k a)(hy:ev O y=.int k b):(execOp (ev O) ⟨d,.binOp .sub t x y u,ty,pos,af,g⟩).run P w=.ok (.value (.int k (k.wrap (a-b)))) w:=by
 simp[execOp,C,hy,eqGuard,binOp,Op.intArith]
def R0(C:ev O x=.int k a)(hy:ev O y=.int k b):(execOp (ev O) ⟨d,.binOp .mul t x y u,ty,pos,af,g⟩).run P w=.ok (.value (.int k (k.wrap (a*b)))) w:=by
 simp[execOp,C,hy,eqGuard,binOp,Op.intArith]
def wY(C:ev O x=.int k a)(hy:ev O y=.int k b)(F:b≠0):(execOp (ev O) ⟨d,.binOp .quo t x y u,ty,pos,af,g⟩).run P w=.ok (.value (.int k (k.wrap (a.tdiv b)))) w:=by
 simp[execOp,C,hy,eqGuard,binOp,Op.intDiv,F]
def ZZ(C:ev O x=.int k a)(hy:ev O y=.int k b)(F:b≠0):(execOp (ev O) ⟨d,.binOp .rem t x y u,ty,pos,af,g⟩).run P w=.ok (.value (.int k (a.tmod b))) w:=by
 simp[execOp,C,hy,eqGuard,binOp,Op.intDiv,F]
def DZ(C:ev O x=.int k a)(hy:ev O y=.int k b):(execOp (ev O) ⟨d,.binOp .and t x y u,ty,pos,af,g⟩).run P w=.ok (.value (.int k (k.wrap (BitVec.ofInt k.bits a &&& BitVec.ofInt k.bits b).toNat))) w:=by
 simp[execOp,C,hy,eqGuard,binOp,Op.intBits]
def age(C:ev O x=.int k a)(hy:ev O y=.int k b):(execOp (ev O) ⟨d,.binOp .or t x y u,ty,pos,af,g⟩).run P w=.ok (.value (.int k (k.wrap (BitVec.ofInt k.bits a|||BitVec.ofInt k.bits b).toNat))) w:=by
 simp[execOp,C,hy,eqGuard,binOp,Op.intBits]
def adg{c:IntKind}(C:ev O x=.int k a)(hy:ev O y=.int c b)(F:0<=b):(execOp (ev O) ⟨d,.binOp .shl t x y u,ty,pos,af,g⟩).run P w=.ok (.value (.int k (k.wrap (a*2^(min b.toNat k.bits))))) w:=by
 simp[execOp,C,hy,eqGuard,binOp,Op.shift,show ¬b<0 by omega]
def N0{c:IntKind}(C:ev O x=.int k a)(hy:ev O y=.int c b)(F:0<=b):(execOp (ev O) ⟨d,.binOp .shr t x y u,ty,pos,af,g⟩).run P w=.ok (.value (.int k (a.fdiv (2^(min b.toNat k.bits))))) w:=by
 simp[execOp,C,hy,eqGuard,binOp,Op.shift,show ¬b<0 by omega]
def PF{op:BinOp}:(eqGuard op t x y (.int k a) (.int k b)).run P w=.ok () w:=by
 unfold eqGuard;cases op<;>simp
def Mn{op:BinOp}{r:Bool}(C:ev O x=.int k a)(hy:ev O y=.int k b)(X:(Op.intCmp op a b).run P w=.ok (.bool r) w)(E:op=.eql\/op=.neq\/op=.lss\/op=.leq\/op=.gtr\/op=.geq):(execOp (ev O) ⟨d,.binOp op t x y u,ty,pos,af,g⟩).run P w=.ok (.value (.bool r)) w:=by
 obtain h|h|h|h|h|h:=E<;>subst h<;>simp[execOp,C,hy,PF,binOp,X]
def vV(C:ev O x=.int k a)(hy:ev O y=.int k b)(h:a<b):(execOp (ev O) ⟨d,.binOp .lss t x y u,ty,pos,af,g⟩).run P w=.ok (.value (.bool true)) w:=
 Mn C hy (by simp[Op.intCmp,h]) (by simp)
def SX(C:ev O x=.int k a)(hy:ev O y=.int k b)(h:¬a<b):(execOp (ev O) ⟨d,.binOp .lss t x y u,ty,pos,af,g⟩).run P w=.ok (.value (.bool false)) w:=
 Mn C hy (by simp[Op.intCmp];omega) (by simp)
def BX(C:ev O x=.int k a)(hy:ev O y=.int k b)(h:a<=b):(execOp (ev O) ⟨d,.binOp .leq t x y u,ty,pos,af,g⟩).run P w=.ok (.value (.bool true)) w:=
 Mn C hy (by simp[Op.intCmp,h]) (by simp)
def HX(C:ev O x=.int k a)(hy:ev O y=.int k b)(h:¬a<=b):(execOp (ev O) ⟨d,.binOp .leq t x y u,ty,pos,af,g⟩).run P w=.ok (.value (.bool false)) w:=
 Mn C hy (by simp[Op.intCmp];omega) (by simp)
def LV(C:ev O x=.int k a)(hy:ev O y=.int k b)(h:b<a):(execOp (ev O) ⟨d,.binOp .gtr t x y u,ty,pos,af,g⟩).run P w=.ok (.value (.bool true)) w:=
 Mn C hy (by simp[Op.intCmp,h]) (by simp)
def tW(C:ev O x=.int k a)(hy:ev O y=.int k b)(h:¬b<a):(execOp (ev O) ⟨d,.binOp .gtr t x y u,ty,pos,af,g⟩).run P w=.ok (.value (.bool false)) w:=
 Mn C hy (by simp[Op.intCmp];omega) (by simp)
def HW(C:ev O x=.int k a)(hy:ev O y=.int k b)(h:b<=a):(execOp (ev O) ⟨d,.binOp .geq t x y u,ty,pos,af,g⟩).run P w=.ok (.value (.bool true)) w:=
 Mn C hy (by simp[Op.intCmp,h]) (by simp)
def jX(C:ev O x=.int k a)(hy:ev O y=.int k b)(h:¬b<=a):(execOp (ev O) ⟨d,.binOp .geq t x y u,ty,pos,af,g⟩).run P w=.ok (.value (.bool false)) w:=
 Mn C hy (by simp[Op.intCmp];omega) (by simp)
def YW(C:ev O x=.int k a)(hy:ev O y=.int k b)(h:a≠b):(execOp (ev O) ⟨d,.binOp .neq t x y u,ty,pos,af,g⟩).run P w=.ok (.value (.bool true)) w:=
 Mn C hy (by simp[Op.intCmp,h]) (by simp)
def iX(C:ev O x=.int k a)(hy:ev O y=.int k b)(h:a=b):(execOp (ev O) ⟨d,.binOp .neq t x y u,ty,pos,af,g⟩).run P w=.ok (.value (.bool false)) w:=
 Mn C hy (by simp[Op.intCmp,h]) (by simp)
def TB(C:ev O x=.int k a)(hy:ev O y=.int k b):(execOp (ev O) ⟨d,.binOp .eql t x y u,ty,pos,af,g⟩).run P w=.ok (.value (.bool (decide (a=b)))) w:=
 Mn C hy (by simp[Op.intCmp];rw[Bool.eq_iff_iff];simp) (by simp)
def W1(C:ev O x=.int k a):(execOp (ev O) ⟨d,.unOp .neg t x,ty,pos,af,g⟩).run P w=.ok (.value (.int k (k.wrap (-a)))) w:=by
 simp[execOp,C,Op.unary,Op.intArith]
def yj{n:Int}(h1: -9223372036854775808<=n)(h2:n<=9223372036854775807):IntKind.i64.wrap n=n:=IntWalk.i64_in n ⟨h1,h2⟩
def Ws(C:ev O x=.int .i64 a)(hy:ev O y=.int .i64 b)(h1: -9223372036854775808<=a+b)(h2:a+b<=9223372036854775807):(execOp (ev O) ⟨d,.binOp .add t x y u,ty,pos,af,g⟩).run P w=.ok (.value (.int .i64 (a+b))) w:=by
 rw[P2 C hy,yj h1 h2]
def zU(C:ev O x=.int .i64 a)(hy:ev O y=.int .i64 b)(h1: -9223372036854775808<=a-b)(h2:a-b<=9223372036854775807):(execOp (ev O) ⟨d,.binOp .sub t x y u,ty,pos,af,g⟩).run P w=.ok (.value (.int .i64 (a-b))) w:=by
 rw[MY C hy,yj h1 h2]
def oT(C:ev O x=.int .i64 a)(hy:ev O y=.int .i64 b)(h1: -9223372036854775808<=a*b)(h2:a*b<=9223372036854775807):(execOp (ev O) ⟨d,.binOp .mul t x y u,ty,pos,af,g⟩).run P w=.ok (.value (.int .i64 (a*b))) w:=by
 rw[R0 C hy,yj h1 h2]
def sH(C:ev O x=.int .i64 a)(h1: -9223372036854775808<= -a)(h2: -a<=9223372036854775807):(execOp (ev O) ⟨d,.unOp .neg t x,ty,pos,af,g⟩).run P w=.ok (.value (.int .i64 (-a))) w:=by
 rw[W1 C,yj h1 h2]
def Rm(C:ev O x=.int .i64 a)(hy:ev O y=.int .i64 b)(M:0<=a)(F:0<b)(h2:a<=9223372036854775807):(execOp (ev O) ⟨d,.binOp .quo t x y u,ty,pos,af,g⟩).run P w=.ok (.value (.int .i64 (a/b))) w:=by
 have G:a/b<=a:=Int.ediv_le_self b M;have z:0<=a/b:=Int.ediv_nonneg M Z';rw[wY C hy Z',Int.tdiv_eq_ediv_of_nonneg M,yj Z' Z']
def rl(C:ev O x=.int .i64 a)(hy:ev O y=.int .i64 b)(M:0<=a)(F:0<b):(execOp (ev O) ⟨d,.binOp .rem t x y u,ty,pos,af,g⟩).run P w=.ok (.value (.int .i64 (a % b))) w:=by
 rw[ZZ C hy Z',Int.tmod_eq_emod_of_nonneg M]
def gY{t:TypeId}{x:Operand}{b:Bool}(C:ev O x=.bool b):(execOp (ev O) ⟨d,.unOp .not t x,ty,pos,af,g⟩).run P w=.ok (.value (.bool !b)) w:=by
 simp[execOp,C,Op.unary]
variable {a b:Bool}
def CC(n:Nat)(S:P.underlying t=some .bool):(Op.equalIn (n+1) t (.bool a) (.bool b)).run P w=.ok (a==b) w:=by
 simp[Op.equalIn,run_underlying S]
def Sw(S:P.underlying t=some .bool):(Op.equal t (.bool a) (.bool b)).run P w=.ok (a==b) w:=CC 9999 S
def ux(S:P.underlying t=some .bool):(binOp .eql t (.bool a) (.bool b)).run P w=.ok (.bool (a==b)) w:=by
 simp only[binOp];simp[Sw S]
def zv(S:P.underlying t=some .bool):(binOp .neq t (.bool a) (.bool b)).run P w=.ok (.bool (a !=b)) w:=by
 simp only[binOp];simp[Sw S,bne]
def kx(S:P.underlying t=some .bool)(C:ev O x=.bool a)(hy:ev O y=.bool b):(execOp (ev O) ⟨d,.binOp .eql t x y u,ty,pos,af,g⟩).run P w=.ok (.value (.bool (a==b))) w:=by
 simp only[execOp,C,hy,eqGuard];simp[ux S]
def Df(S:P.underlying t=some .bool)(C:ev O x=.bool a)(hy:ev O y=.bool b):(execOp (ev O) ⟨d,.binOp .neq t x y u,ty,pos,af,g⟩).run P w=.ok (.value (.bool (a !=b))) w:=by
 simp only[execOp,C,hy,eqGuard];simp[zv S]
variable {a b:ByteArray}
def NF{op:BinOp}:(eqGuard op t x y (.string a) (.string b)).run P w=.ok () w:=by
 unfold eqGuard;cases op<;>simp
def JG{op:BinOp}{r:Value}(C:ev O x=.string a)(hy:ev O y=.string b)(K:op≠.shl/\op≠.shr)(X:(Op.stringOp op a b).run P w=.ok r w):(execOp (ev O) ⟨d,.binOp op t x y u,ty,pos,af,g⟩).run P w=.ok (.value r) w:=by
 cases op<;>simp_all [execOp,NF,binOp]
def iz(C:ev O x=.string a)(hy:ev O y=.string b):(execOp (ev O) ⟨d,.binOp .eql t x y u,ty,pos,af,g⟩).run P w=.ok (.value (.bool (a.toList==b.toList))) w:=
 JG C hy (by simp) (by simp[Op.stringOp])
def FA(C:ev O x=.string a)(hy:ev O y=.string b):(execOp (ev O) ⟨d,.binOp .neq t x y u,ty,pos,af,g⟩).run P w=.ok (.value (.bool !(a.toList==b.toList))) w:=
 JG C hy (by simp) (by simp[Op.stringOp])
def UQ{a b:ByteArray}:(a.toList==b.toList)=decide (a=b):=by
 have key:∀s:ByteArray,s.toList=s.data.toList:=λs=>(by refine ac4 ?_;intro this;simpa using this (s.size-0) 0 [] rfl);rw[Bool.eq_iff_iff,k9,h',key,key];constructor
 .intro h;cases a;cases b;congr 1;exact l7 h
 intro h;rw[h]
def Pj(C:ev O x=.string a)(hy:ev O y=.string b)(h:a=b):(execOp (ev O) ⟨d,.binOp .eql t x y u,ty,pos,af,g⟩).run P w=.ok (.value (.bool true)) w:=by
 rw[iz C hy,UQ];simp[h]
def Vj(C:ev O x=.string a)(hy:ev O y=.string b)(h:¬a=b):(execOp (ev O) ⟨d,.binOp .eql t x y u,ty,pos,af,g⟩).run P w=.ok (.value (.bool false)) w:=by
 rw[iz C hy,UQ];simp[h]
def rf(C:ev O x=.string a)(hy:ev O y=.string b)(h:¬a=b):(execOp (ev O) ⟨d,.binOp .neq t x y u,ty,pos,af,g⟩).run P w=.ok (.value (.bool true)) w:=by
 rw[FA C hy,UQ];simp[h]
def pf(C:ev O x=.string a)(hy:ev O y=.string b)(h:a=b):(execOp (ev O) ⟨d,.binOp .neq t x y u,ty,pos,af,g⟩).run P w=.ok (.value (.bool false)) w:=by
 rw[FA C hy,UQ];simp[h]
def Bs(C:ev O x=.string a)(hy:ev O y=.string b):(execOp (ev O) ⟨d,.binOp .lss t x y u,ty,pos,af,g⟩).run P w=.ok (.value (.bool (Op.bytesLess a.toList b.toList))) w:=
 JG C hy (by simp) (by simp[Op.stringOp])
def FN(C:ev O x=.string a)(hy:ev O y=.string b):(execOp (ev O) ⟨d,.binOp .gtr t x y u,ty,pos,af,g⟩).run P w=.ok (.value (.bool !(Op.bytesLess a.toList b.toList||a.toList==b.toList))) w:=
 JG C hy (by simp) (by simp[Op.stringOp])
def Lz(C:ev O x=.string a)(hy:ev O y=.string b):(execOp (ev O) ⟨d,.binOp .geq t x y u,ty,pos,af,g⟩).run P w=.ok (.value (.bool !(Op.bytesLess a.toList b.toList))) w:=
 JG C hy (by simp) (by simp[Op.stringOp])
def Wk{s t:TypeId}{x:Operand}{k c:IntKind}{a:Int}{b:TypeDesc}(K:P.underlying s=some b)(S:P.underlying t=some (.int k))(C:ev O x=.int c a):(execOp (ev O) ⟨d,.convert s t x,ty,pos,af,g⟩).run P w=.ok (.value (.int k (k.wrap a))) w:=by
 simp[execOp,C,convert,run_underlying K,run_underlying S,Conv.intToInt]
def Dp{s t:TypeId}{x:Operand}{c:IntKind}{a:Int}{b:TypeDesc}(K:P.underlying s=some b)(S:P.underlying t=some (.int .i64))(C:ev O x=.int c a)(h1: -9223372036854775808<=a)(h2:a<=9223372036854775807):(execOp (ev O) ⟨d,.convert s t x,ty,pos,af,g⟩).run P w=.ok (.value (.int .i64 a)) w:=by
 rw[Wk K S C,yj h1 h2]
def vd{x:Operand}{i:Nat}{vs:List Value}{v:Value}(C:ev O x=.tuple vs.toArray)(A:vs[i]?=some v):(execOp (ev O) ⟨d,.extract x i,ty,pos,af,g⟩).run P w=.ok (.value v) w:=by
 simp[execOp,C,Instr.extract,A]
def Qs(O:Rf):List Operand->List Value
 |[]=>[]
 |x::l=>ev O x::Qs O l
def Qq{O:Rf}(args:Array Operand){vs:List Value}(h:Qs O args.toList=vs):args.map (ev O)=vs.toArray:=by
 have h1:∀l:List Operand,l.map (ev O)=Qs O l:=by
  intro l
  induction l with
  |nil=>rfl
  |cons a l W=>simp only[I_,W];rfl
 subst h;rw[<-h1];apply l7;simp
def fJ{fn:Fn}{first captured:Array Operand}{fs cs:List Value}(Y:Qs O first.toList=fs)(E:Qs O captured.toList=cs):(execOp (ev O) ⟨d,.makeFunc fn first captured,ty,pos,af,g⟩).run P w=.ok (.value (.func fn fs.toArray cs.toArray)) w:=by
 simp[execOp,Qq _ Y,Qq _ E,Instr.makeFunc]
def ji{i:Nat}{k:IntKind}{n:Int}(h:O i=.int k n):O i=.int k n:=h
def jk{i:Nat}{b:Bool}(h:O i=.bool b):O i=.bool b:=h
def JA{i:Nat}{s:ByteArray}(h:O i=.string s):O i=.string s:=h
def aN{i:Nat}{A:Option Addr}{n c:Nat}(h:O i=.slice A n c):O i=.slice A n c:=h
def Xb{x:Operand}{k:IntKind}{n:Int}(h:ev O x=.int k n):ev O x=.int k n:=h
def Wn{x:Operand}{b:Bool}(h:ev O x=.bool b):ev O x=.bool b:=h
def uD{x:Operand}{s:ByteArray}(h:ev O x=.string s):ev O x=.string s:=h
def dp{x:Operand}{A:Option Addr}{n c:Nat}(h:ev O x=.slice A n c):ev O x=.slice A n c:=h
def nJ{x:Operand}{a:Addr}(h:ev O x=.pointer (some a)):ev O x=.pointer (some a):=h
def Hd{x:Operand}{l:List Value}(h:ev O x=.agg l.toArray):ev O x=.agg l.toArray:=h
def abS{x:Operand}{l:List Value}(h:ev O x=.tuple l.toArray):ev O x=.tuple l.toArray:=h
def xr{x:Operand}{f:Fn}{a b:List Value}(h:ev O x=.func f a.toArray b.toArray):ev O x=.func f a.toArray b.toArray:=h
def Es{x:Operand}{t:TypeId}{s:ByteArray}(S:P.underlying t=some .string)(C:ev O x=.string s):(execOp (ev O) ⟨d,.call ⟨.builtin .len, #[x], #[t]⟩,ty,pos,af,g⟩).run P w=.ok (.value (.int .i64 s.size)) w:=by
 simp[execOp,resolve,invoke,builtin,Builtin.len_,C,run_underlying S,goInt]
def rF{x:Operand}{t e:TypeId}{A:Option Addr}{n c:Nat}(S:P.underlying t=some (.slice e))(C:ev O x=.slice A n c):(execOp (ev O) ⟨d,.call ⟨.builtin .len, #[x], #[t]⟩,ty,pos,af,g⟩).run P w=.ok (.value (.int .i64 n)) w:=by
 simp[execOp,resolve,invoke,builtin,Builtin.len_,C,run_underlying S,goInt]
def aew{x y:Operand}{ts:Array TypeId}{k:IntKind}{a b:Int}(C:ev O x=.int k a)(hy:ev O y=.int k b):(execOp (ev O) ⟨d,.call ⟨.builtin .min, #[x,y],ts⟩,ty,pos,af,g⟩).run P w=.ok (.value (.int k (if b<a then b else a))) w:=by
 simp[execOp,resolve,invoke,builtin,Builtin.min_,Builtin.min2,C,hy,List.foldlM]
def aeE{x y:Operand}{ts:Array TypeId}{k:IntKind}{a b:Int}(C:ev O x=.int k a)(hy:ev O y=.int k b):(execOp (ev O) ⟨d,.call ⟨.builtin .max, #[x,y],ts⟩,ty,pos,af,g⟩).run P w=.ok (.value (.int k (if b>a then b else a))) w:=by
 simp[execOp,resolve,invoke,builtin,Builtin.max_,Builtin.max2,C,hy,List.foldlM]
def Gm{t:TypeId}{x i:Operand}{s:ByteArray}{n:Int}{k:IntKind}{c:UInt8}(S:P.underlying t=some .string)(C:ev O x=.string s)(hi:ev O i=.int k n) (J:0<=n)(E:s.data.toList[n.toNat]?=some c):(execOp (ev O) ⟨d,.index t x i,ty,pos,af,g⟩).run P w=.ok (.value (.int .u8 c.toNat)) w:=by
 have K:s[n.toNat]?=some c:=by
  rw[<-E];obtain⟨h1,h2⟩:=x'.1 E;have G:n.toNat<s.size:=by simpa using h1
  rw[getElem?_pos s n.toNat G,getElem?_pos s.data.toList n.toNat h1];rfl
 simp[execOp,C,hi,Instr.index,asIntOf,run_underlying S,J,K]
def ru{t:TypeId}{x:Operand}{lo hi:Option Operand}{s:ByteArray}{l h:Nat}(S:P.underlying t=some .string)(C:ev O x=.string s) (p:match lo with|none=>l=0|some o=>∃(k:IntKind)(n:Int),ev O o=.int k n/\n=l)(f:match hi with|none=>h=s.size|some o=>∃(k:IntKind)(n:Int),ev O o=.int k n/\n=h) (h1:l<=h)(h2:h<=s.size):(execOp (ev O) ⟨d,.slice t x lo hi none,ty,pos,af,g⟩).run P w=.ok (.value (.string (s.extract l h))) w:=by
 have N:(l:Int)<=h:=Z';have L:(h:Int)<=s.size:=Z'
 cases lo<;>cases hi<;>simp only[] at p f
 .subst p;subst f;simp[execOp,C,Instr.sliceAt,Instr.slice,run_underlying S,Instr.sliceBounds]
 .obtain⟨k2,r,u,rfl⟩:=f;subst p;simp[execOp,C,Instr.sliceAt,Instr.slice,run_underlying S,Instr.sliceBounds,Instr.sliceBound,asIntOf,u,h2]
 .obtain⟨k2,r,u,rfl⟩:=p;subst f;simp[execOp,C,Instr.sliceAt,Instr.slice,run_underlying S,Instr.sliceBounds,Instr.sliceBound,asIntOf,u,h1]
 obtain⟨k2,r,u,rfl⟩:=f;obtain⟨F,q,W,rfl⟩:=p;simp[execOp,C,Instr.sliceAt,Instr.slice,run_underlying S,Instr.sliceBounds,Instr.sliceBound,asIntOf,u,W,h1,h2]
def xf{t e:TypeId}{x:Operand}{lo hi:Option Operand}{A:Option Addr}{n c l h sz:Nat}(S:P.underlying t=some (.slice e))(M:(P.info? e).map (·.size)=some sz)(C:ev O x=.slice A n c) (p:match lo with|none=>l=0|some o=>∃(k:IntKind)(n:Int),ev O o=.int k n/\n=l)(f:match hi with|none=>h=n|some o=>∃(k:IntKind)(n:Int),ev O o=.int k n/\n=h) (h1:l<=h)(h2:h<=c):(execOp (ev O) ⟨d,.slice t x lo hi none,ty,pos,af,g⟩).run P w=.ok (.value (.slice (if c=l then A else A.map (·.add (l*sz))) (h-l) (c-l))) w:=by
 obtain⟨i,H,v⟩:=y9.1 M;have N:(l:Int)<=h:=Z';have L:(h:Int)<=c:=Z'
 cases lo<;>cases hi<;>simp only[] at p f
 .subst p;subst f;simp[execOp,C,Instr.sliceAt,Instr.slice,run_underlying S,Instr.sliceBounds,sizeOf,typeInfo,H]
 .obtain⟨k2,r,u,rfl⟩:=f;subst p;simp[execOp,C,Instr.sliceAt,Instr.slice,run_underlying S,Instr.sliceBounds,Instr.sliceBound,asIntOf,u,h2,sizeOf,typeInfo,H]
 .obtain⟨k2,r,u,rfl⟩:=p;subst f;simp[execOp,C,Instr.sliceAt,Instr.slice,run_underlying S,Instr.sliceBounds,Instr.sliceBound,asIntOf,u,h1,sizeOf,typeInfo,H,v]
 obtain⟨k2,r,u,rfl⟩:=f;obtain⟨F,q,W,rfl⟩:=p;simp[execOp,C,Instr.sliceAt,Instr.slice,run_underlying S,Instr.sliceBounds,Instr.sliceBound,asIntOf,u,W,h1,h2,sizeOf,typeInfo,H,v]
def vg{t e:TypeId}{x i:Operand}{b:Addr}{n c sz:Nat}{k:IntKind}{m:Int}(S:P.underlying t=some (.slice e))(M:(P.info? e).map (·.size)=some sz)(C:ev O x=.slice (some b) n c)(hi:ev O i=.int k m) (J:0<=m)(h1:m<n):(execOp (ev O) ⟨d,.indexAddr t x i,ty,pos,af,g⟩).run P w=.ok (.value (.pointer (some (b.add (m.toNat*sz))))) w:=by
 obtain⟨i,H,v⟩:=y9.1 M;simp[execOp,C,hi,Instr.indexAt,asIntOf,run_underlying S,sizeOf,typeInfo,H,v,J,h1]
def Lc{t e:TypeId}{x i:Operand}{b n c sz k:Nat}{p:IntKind}{m:Int}(S:P.underlying t=some (.slice e))(M:(P.info? e).map (·.size)=some sz)(C:ev O x=.slice (some ⟨b,0,none⟩) n c)(hi:ev O i=.int p m) (hm:m=(k:Int))(h1:k<n):(execOp (ev O) ⟨d,.indexAddr t x i,ty,pos,af,g⟩).run P w=.ok (.value (.pointer (some ⟨b,k*sz,none⟩))) w:=by
 have h:=vg (P:=P) (w:=w) (d:=d) (ty:=ty) (pos:=pos) (af:=af) (g:=g) S M C hi Z' Z';rw[h,hm];have:(⟨b,0,none⟩:Addr).add (((k:Int)).toNat*sz)=⟨b,k*sz,none⟩:=by
  unfold Addr.add;split
  .rename_i J;rw[M8] at J;rw[J]
  rw[M8];simp
 rw[this]
def jU{x:Operand}{args:Array Operand}{ts:Array TypeId}{f:FuncId}{fn:Func}{first cap:Array Value}{vs:Array Value}(Y:P.funcs[f]?=some fn)(F:fn.body.isNone=false)(B:(fn.name== "runtime.NumGoroutine")=false) (C:ev O x=.func (.func f) first cap)(M:args.map (ev O)=vs):(execOp (ev O) ⟨d,.call ⟨.value x,args,ts⟩,ty,pos,af,g⟩).run P w=.ok (.enter f (first++vs++cap)) w:=by
 have h1:¬fn.name= "runtime.NumGoroutine" :=by simpa using B
 have h2:¬fn.body=none:=by intro h;simp[h] at F
 simp[execOp,resolve,Deferred.ofValue,C,M,invoke,callFunc,program,Sem.run,Y,h1,h2]
def ed(P:Program)(t:TypeId):Option (Nat×Bool×Nat×List Value):=
 match P.info? t,P.underlying t with
 |some i,some d=>i.zero.map λz=>(i.size,(match d with|.struct _|.array _ _=>true|_=>false),i.bytes,z.cells.toList)
 |_,_=>none
def Je{P:Program}{t:TypeId}{n by':Nat}{ag:Bool}{zc:List Value}(h:ed P t=some (n,ag,by',zc)):
  ∃i z d,P.info? t=some i/\P.underlying t=some d/\i.zero=some z/\i.size=n/\i.bytes=by'/\z.cells=zc.toArray/\(match d with|.struct _|.array _ _=>true|_=>false)=ag:=by
 unfold ed at h;split at h
 .rename_i i d hi T;obtain⟨z,o,he⟩:=y9.1 h;simp only[Prod.mk.injEq] at he;exact⟨i,z,d,hi,T,o,he.1,he.2.2.1,by rw[<-he.2.2.2],he.2.1⟩
 cases h
variable {n by':Nat}{ag:Bool}{zc:List Value}
def ff(h:ed P t=some (n,ag,by',zc)):(sizeOf t).run P w=.ok n w:=by
 obtain⟨i,z,d,hi,T,o,K,_⟩:=Je h;simp[sizeOf,typeInfo,hi,K]
def mh(h:ed P t=some (n,ag,by',zc)):(isAgg t).run P w=.ok ag w:=by
 obtain⟨i,z,d,hi,T,o,K,_,_,M⟩:=Je h;simp only[isAgg,Sem.run_bind,run_underlying T,Result.andThen_ok];subst M
 cases d<;>rfl
def Md(h:ed P t=some (n,ag,by',zc)):∃z,(zeroValue t).run P w=.ok z w/\z.cells=zc.toArray:=by
 obtain⟨i,z,d,hi,T,o,K,_,E,_⟩:=Je h;exact⟨z,by simp[zeroValue,typeInfo,hi,o],E⟩
def Rd(w:World)(b:Addr)(vs:List Value):Prop:=∀j u,vs[j]?=some u->w.cell? (b.add j)=some u
def Sl(w:World)(A:Option Addr)(n k:Nat)(xs:List Value):Prop:=xs.length=n*k/\(0<n->∃b,A=some b/\Rd w b xs)
def Zd(b o n:Nat):(⟨b,o,none⟩:Addr).add n=⟨b,o+n,none⟩:=by
 unfold Addr.add;split
 .rename_i h;subst h;rfl
 rfl
def Ur(a:Addr)(i j:Nat):(a.add i).add j=a.add (i+j):=by
 unfold Addr.add;by_cases hi:i=0<;>by_cases hj:j=0<;>simp[hi,hj,n7]
def Wl{w:World}{a:Addr}{v:Value}(h:w.cell? a=some v):a.block<w.heap.size:=block_lt_of_cell h
def Kb{w V:World}(h:Below w.heap.size w V){a:Addr}{v:Value}(E:w.cell? a=some v):V.cell? a=some v:=(h.cell (Wl E)).trans E
def Rd.ext{w V:World}{b:Addr}{vs:List Value}(h:Rd w b vs)(F:Below w.heap.size w V):Rd V b vs:=λj u hu=>Kb F (h j u hu)
def Sl.ext{w V:World}{A:Option Addr}{n k:Nat}{xs:List Value}(h:Sl w A n k xs)(F:Below w.heap.size w V):Sl V A n k xs:=
 ⟨h.1,λB=>let⟨b,M,H⟩:=h.2 B;⟨b,M,H.ext F⟩⟩
def Rd.drop{w:World}{b:Addr}{vs:List Value}(h:Rd w b vs)(i:Nat):Rd w (b.add i) (vs.drop i):=λj u hu=>by
 rw[Ur];exact h _ u (by rw[<-hu,c9])
def Rd.take{w:World}{b:Addr}{vs:List Value}(h:Rd w b vs)(n:Nat):Rd w b (vs.take n):=λj u hu=>by
 rw[o8] at hu;split at hu
 .exact h _ u hu
 cases hu
def Rd.cell{w:World}{b:Addr}{vs:List Value}(h:Rd w b vs){i:Nat}{v:Value}(A:vs[i]?=some v):w.cell? (b.add i)=some v:=h i v A
def Sl.nil(w:World)(A:Option Addr)(k:Nat):Sl w A 0 k []:=⟨by simp,λh=>absurd h Z'⟩
def Sl.at_{w:World}{A:Option Addr}{n k:Nat}{xs:List Value}(h:Sl w A n k xs)(B:0<n):∃b,A=some b/\Rd w b xs:=h.2 B
def Rd.elem{w:World}{b:Addr}{xs:List Value}(h:Rd w b xs)(i k:Nat):Rd w (b.add (i*k)) ((xs.drop (i*k)).take k):=(h.drop _).take _
def Sl.cut{w:World}{A:Option Addr}{n k c l m:Nat}{xs:List Value}(h:Sl w A n k xs)(Q:l<=m)(hm:m<=n)(E:n<=c):
  Sl w (if c=l then A else A.map (·.add (l*k))) (m-l) k ((xs.drop (l*k)).take ((m-l)*k)):=by
 have hle:l*k+(m-l)*k<=n*k:=(by rw[<-I8];exact c_ _ Z');refine⟨by rw[p',j_,h.1];omega,λB=> ?_⟩;obtain⟨b,rfl,H⟩:=h.2 Z';rw[Q' Z'];exact⟨_,rfl,(H.drop _).take _⟩
inductive HE where
 |blk (b:Nat)(t:TypeId)(cs:List Value)(fz:Nat×Nat)
 |row (A:Option Addr)(n c:Nat)(t:TypeId)(sz:Nat)(xs:List Value)
 |ob (b:Nat)(o:Obj)
abbrev HE.it(b:Nat)(s:ByteArray)(pos:Nat):HE:=.ob b (.stringIter s pos)
def HE.id:HE->Option Nat
 |.blk b _ _ _=>some b
 |.row A _ _ _ _ _=>A.map (·.block)
 |.ob b _=>some b
def HE.holds(base:Nat)(w:World):HE->Prop
 |.blk b t cs fz=>base<=b/\w.heap[b]?=some (.cells cs.toArray t fz)/\(cs.length<=fz.1\/fz.2<=fz.1)
 |.row A n c t sz xs=>w.ownsRow base t sz (.slice A n c) n xs
 |.ob b o=>base<=b/\w.heap[b]?=some o
structure Hp(w0:World)(H:List HE)(w:World):Prop where
 below:Below w0.heap.size w0 w
 own:∀x∈H,x.holds w0.heap.size w
 nd:(H.filterMap HE.id).Nodup
def Hp.start(w:World):Hp w [] w:=⟨Below.refl _ _,λ_ h=>(nomatch h),List.nodup_nil⟩
variable {w0:World}{H:List HE}
def Hp.size(h:Hp w0 H w):w0.heap.size<=w.heap.size:=h.below.size
def Ye{base:Nat}{x:HE}(h:x.holds base w){b:Nat}(F:x.id=some b):base<=b/\b<w.heap.size:=by
 cases x with
 |blk d t cs fz=>
  obtain rfl:d=b:=by simpa[HE.id] using F
  refine⟨h.1, ?_⟩;obtain D|N:=o_ d w.heap.size
  .exact D
  have:=h.2.1;rw[k6 N] at this;cases this
 |row A n c t sz xs=>
  cases A with
  |none=>simp[HE.id] at F
  |some a=>exact World.ownsRow.lt h b (by simpa[HE.id,Value.ownBlock] using F)
 |ob d o=>
  obtain rfl:d=b:=by simpa[HE.id] using F
  refine⟨h.1, ?_⟩;obtain D|N:=o_ d w.heap.size
  .exact D
  have:=h.2;rw[k6 N] at this;cases this
variable {V:World}
def Ex{base:Nat}{x:HE}(h:x.holds base w)(u:∀b,x.id=some b->V.heap[b]?=w.heap[b]?):x.holds base V:=by
 cases x with
 |blk b t cs fz=>exact⟨h.1,(u b rfl).trans h.2.1,h.2.2⟩
 |row A n c t sz xs=>
  obtain⟨h1,h2⟩:=h;refine⟨h1, ?_⟩;obtain h2|⟨g,cap,cur,a,s,I,r⟩:=h2
  .exact .inl h2
  have R:A=some ⟨g,0,none⟩:=by injection a
  subst R;exact .inr ⟨g,cap,cur,a,s,(u g rfl).trans I,r⟩
 |ob b o=>exact⟨h.1,(u b rfl).trans h.2⟩
def Hp.ext(h:Hp w0 H w)(F:Below w.heap.size w V):Hp w0 H V:=
 ⟨h.below.trans (F.mono h.size),λx C=>Ex (h.own x C) λ_ hi=>F.block _ (Ye (h.own x C) hi).2,h.nd⟩
def Hp.sub(h:Hp w0 H w){H':List HE}(K:H'.Sublist H):Hp w0 H' w:=⟨h.below,λx C=>h.own x (K.subset C),h.nd.sublist (K.filterMap _)⟩
def Hp.at_(h:Hp w0 H w){i:Nat}{x:HE}(hi:H[i]?=some x):x.holds w0.heap.size w:=h.own x (N' hi)
def Hp.pd(h:Hp w0 H w)(F:Below w.heap.size w V){x:HE}(C:x.holds w.heap.size V):Hp w0 (x::H) V:=by
 have S:=h.ext F;refine⟨S.below, ?_, ?_⟩
 .intro y hy;obtain rfl|hy:=u'.1 hy
  .cases y with
   |blk b t cs fz=>exact⟨d' h.size C.1,C.2⟩
   |row A n c t sz xs=>
    obtain⟨h1,h2⟩:=C;exact⟨h1,h2.imp id λ⟨g,cap,cur,a,s,r⟩=>⟨g,cap,cur,a,d' h.size s,r⟩⟩
   |ob b o=>exact⟨d' h.size C.1,C.2⟩
  exact S.own y hy
 rw[K7];split
 .exact S.nd
 rename_i b Y;refine W7.2 ⟨λhm=> ?_,S.nd⟩;obtain⟨y,hy,d⟩:=Z8.1 hm;have h1:=(Ye C Y).1;have h2:=(Ye (h.own y hy) d).2;omega
def Hp.xX(h:Hp w0 H w){i:Nat}{x y:HE}(hi:H[i]?=some x)(j:∀b,y.id=some b->x.id=some b\/w.heap.size<=b) (F:Below w0.heap.size w0 V)(k:∀b,b<w.heap.size->x.id≠some b->V.heap[b]?=w.heap[b]?)(hy:y.holds w0.heap.size V):Hp w0 (H.set i y) V:=by
 obtain⟨D,C⟩:=x'.1 hi;have c:H=H.take i++x::H.drop (i+1):=(by rw[<-C,<-K8 D,q_]);have d:H.set i y=H.take i++y::H.drop (i+1):=by rw[x6,P' D]
 have m:=h.nd;rw[c,l6] at m;have a:∀z,z∈H.take i\/z∈H.drop (i+1)->z∈H/\(∀b,z.id=some b->x.id≠some b):=by
  intro z o;refine⟨o.elim x9 J6,λb p l=> ?_⟩;rw[K7,l] at m;simp only[] at m;rw[List.nodup_append] at m;obtain o|o:=o
  .exact m.2.2 b (Z8.2 ⟨z,o,p⟩) b (I') rfl
  exact(W7.1 m.2.1).1 (Z8.2 ⟨z,o,p⟩)
 have hold:∀z,z∈H.take i\/z∈H.drop (i+1)->z.holds w0.heap.size V:=λz o=>(by obtain⟨hm,E⟩:=a z o;exact Ex (h.own z hm) λb p=>k b (Ye (h.own z hm) p).2 (E b p));rw[d];refine⟨F, ?_, ?_⟩
 .intro z o;obtain o|o:=O_.1 o
  .exact hold z (.inl o)
  obtain rfl|o:=u'.1 o
  .exact hy
  exact hold z (.inr o)
 rw[l6];have g:((H.take i).filterMap HE.id++(H.drop (i+1)).filterMap HE.id).Nodup:=(by refine m.sublist (List.Sublist.append (P_ _) ?_);exact List.Sublist.filterMap _ (r_ _ _));rw[K7];split
 .exact g
 rename_i b f;have e:∀z,z∈H.take i\/z∈H.drop (i+1)->z.id≠some b:=λz o p=>by
  obtain⟨hm,E⟩:=a z o;obtain h1|h1:=j b f
  .exact E b p h1
  have:=(Ye (h.own z hm) p).2;omega
 rw[List.nodup_append] at g |-;refine⟨g.1,W7.2 ⟨λhm=> ?_,g.2.1⟩,λu hu v A=> ?_⟩
 .obtain⟨z,o,p⟩:=Z8.1 hm;exact e z (.inr o) p
 obtain rfl|A:=u'.1 A
 .rintro rfl;obtain⟨z,o,p⟩:=Z8.1 hu;exact e z (.inl o) p
 exact g.2.2 u hu v A
def Hp.fC(h:Hp w0 H w){i b:Nat}{t:TypeId}{cs:List Value}{fz:Nat×Nat}(hi:H[i]?=some (.blk b t cs fz)):Rd w ⟨b,0,none⟩ cs:=λj u hu=>by
 have h1:=(h.at_ hi).2.1;rw[Zd,U_,cell_of_row w b j _ t fz h1];simpa using hu
def Hp.se(h:Hp w0 H w){i b o:Nat}{t:TypeId}{cs:List Value}{fz:Nat×Nat}{v:Value}(hi:H[i]?=some (.blk b t cs fz))(A:cs[o]?=some v):w.cell? ⟨b,o,none⟩=some v:=by
 have:=h.fC hi o v A;rwa[Zd,U_] at this
def Hp.Ra(h:Hp w0 H w){i b o n:Nat}{t:TypeId}{cs vs:List Value}{fz:Nat×Nat}(hi:H[i]?=some (.blk b t cs fz))(A:(cs.drop o).take n=vs):Rd w ⟨b,o,none⟩ vs:=by
 have:=((h.fC hi).drop o).take n;rwa[Zd,U_,A] at this
def ee{base:Nat}{t:TypeId}{A:Option Addr}{n c sz:Nat}{xs:List Value}(h:w.ownsRow base t sz (.slice A n c) n xs):Sl w A n sz xs:=by
 refine⟨h.1,λB=> ?_⟩;obtain⟨g,cap,a,_,D⟩:=h.form B;have R:A=some ⟨g,0,none⟩:=by injection a
 subst R;exact⟨_,rfl,h.cells (g:=g) rfl⟩
def Hp.kb(h:Hp w0 H w){i n c sz:Nat}{A:Option Addr}{t:TypeId}{xs:List Value}(hi:H[i]?=some (.row A n c t sz xs))(B:0<n):∃g,A=some ⟨g,0,none⟩:=by
 obtain⟨g,cap,a,_⟩:=World.ownsRow.form (h.at_ hi) B;injection a with R
 exact⟨g,R⟩
def Hp.Rc(h:Hp w0 H w){i b n c sz o:Nat}{t:TypeId}{xs:List Value}{v:Value}(hi:H[i]?=some (.row (some ⟨b,0,none⟩) n c t sz xs))(A:xs[o]?=some v):w.cell? ⟨b,o,none⟩=some v:=by
 have:=World.ownsRow.cells (h.at_ hi) (g:=b) rfl o v A;rwa[Zd,U_] at this
def Hp.iV(h:Hp w0 H w){i n c sz:Nat}{A:Option Addr}{t:TypeId}{xs:List Value}(hi:H[i]?=some (.row A n c t sz xs)):xs.length=n*sz:=(h.at_ hi).1
def Hp.ma(h:Hp w0 H w){i n c sz:Nat}{A:Option Addr}{t:TypeId}{xs:List Value}(hi:H[i]?=some (.row A n c t sz xs)):Sl w A n sz xs:=ee (h.at_ hi)
def Ka{t:TypeId}{x:Operand}{b:Addr}{n by':Nat}{zc vs:List Value}(S:ed P t=some (n,true,by',zc))(C:ev O x=.pointer (some b))(H:Rd w b vs)(Q:vs.length=n):(execOp (ev O) ⟨d,.load t x,ty,pos,af,g⟩).run P w=.ok (.value (.agg vs.toArray)) w:=by
 subst Q;simp[execOp,C,Instr.loadAt,Instr.sureAddr,loadVar,mh S,ff S,run_loadCells_list (P:=P) w b vs H]
def Ba{t:TypeId}{x:Operand}{b:Addr}{n by':Nat}{zc:List Value}{v:Value}(S:ed P t=some (n,false,by',zc))(C:ev O x=.pointer (some b))(E:w.cell? b=some v):(execOp (ev O) ⟨d,.load t x,ty,pos,af,g⟩).run P w=.ok (.value v) w:=by
 simp[execOp,C,Instr.loadAt,Instr.sureAddr,loadVar,mh S,run_load,E]
def Mc{t:TypeId}{b:Addr}{n by':Nat}{zc vs:List Value}(S:ed P t=some (n,true,by',zc))(H:Rd w b vs)(Q:vs.length=n):(loadVar t b).run P w=.ok (.agg vs.toArray) w:=by
 subst Q;simp[loadVar,mh S,ff S,run_loadCells_list (P:=P) w b vs H]
def Wf(P:Program)(s:TypeId)(i:Nat):Option (Nat×TypeId):=
 match P.underlying s with
 |some (.struct fs)=>match fs[i]? with
  |some f=>if P.cellsOf f.type=0 then none else some (f.offset,f.type)
  |none=>none
 |_=>none
def cu{s:TypeId}{x:Operand}{f b o off:Nat}{q:TypeId}(Y:Wf P s f=some (off,q))(C:ev O x=.pointer (some ⟨b,o,none⟩)):(execOp (ev O) ⟨d,.fieldAddr s x f,ty,pos,af,g⟩).run P w=.ok (.value (.pointer (some ⟨b,o+off,none⟩))) w:=by
 unfold Wf at Y;split at Y
 .rename_i fs K;split at Y
  .rename_i fd k;split at Y
   .cases Y
   rename_i E;refine L0 ?_;intro i hi N;simp[execOp,C,Instr.fieldAt,run_underlying K,k,Instr.sureAddr,fieldPlace,sizeOf,typeInfo,hi,N,Zd]
  cases Y
 cases Y
def Al{s:TypeId}{x:Operand}{f off:Nat}{b:Addr}{q:TypeId}(Y:Wf P s f=some (off,q))(C:ev O x=.pointer (some b)):(execOp (ev O) ⟨d,.fieldAddr s x f,ty,pos,af,g⟩).run P w=.ok (.value (.pointer (some (b.add off)))) w:=by
 unfold Wf at Y;split at Y
 .rename_i fs K;split at Y
  .rename_i fd k;split at Y
   .cases Y
   rename_i E;refine L0 ?_;intro i hi N;simp[execOp,C,Instr.fieldAt,run_underlying K,k,Instr.sureAddr,fieldPlace,sizeOf,typeInfo,hi,N]
  cases Y
 cases Y
def qQ{s:TypeId}{x:Operand}{f off n by':Nat}{q:TypeId}{cs:Array Value}{v:Value}{zc:List Value}(Y:Wf P s f=some (off,q))(S:ed P q=some (n,false,by',zc))(C:ev O x=.agg cs)(A:cs[off]?=some v):(execOp (ev O) ⟨d,.field s x f,ty,pos,af,g⟩).run P w=.ok (.value v) w:=by
 unfold Wf at Y;split at Y
 .rename_i fs K;split at Y
  .rename_i fd k;split at Y
   .cases Y
   simp only[g9,Prod.mk.injEq] at Y;obtain⟨rfl,rfl⟩:=Y;simp[execOp,C,Instr.field,run_underlying K,k,asAgg,part,mh S,A]
  cases Y
 cases Y
def WV{s:TypeId}{x:Operand}{f off n by':Nat}{q:TypeId}{cs vs:Array Value}{zc:List Value}(Y:Wf P s f=some (off,q))(S:ed P q=some (n,true,by',zc))(C:ev O x=.agg cs)(A:cs.extract off (off+n)=vs):(execOp (ev O) ⟨d,.field s x f,ty,pos,af,g⟩).run P w=.ok (.value (.agg vs)) w:=by
 unfold Wf at Y;split at Y
 .rename_i fs K;split at Y
  .rename_i fd k;split at Y
   .cases Y
   simp only[g9,Prod.mk.injEq] at Y;obtain⟨rfl,rfl⟩:=Y;simp[execOp,C,Instr.field,run_underlying K,k,asAgg,part,mh S,ff S,A]
  cases Y
 cases Y
def db(cs:List Value)(o:Nat)(vs:List Value):List Value:=cs.take o++vs++cs.drop (o+vs.length)
def Qe{cs vs:List Value}{o:Nat}(h:o+vs.length<=cs.length):(db cs o vs).length=cs.length:=by
 simp only[db,y',p',j_];omega
def Sv(cs:List Value)(o:Nat):db cs o []=cs:=by simp[db]
def gu{cs vs:List Value}{o:Nat}{v:Value}(h:o+(v::vs).length<=cs.length):db cs o (v::vs)=db (cs.set o v) (o+1) vs:=by
 simp only[T_] at h;have J:cs.set o v=cs.take o++v::cs.drop (o+1):=by rw[x6,P' Z']
 have h2:(cs.take o).length=o:=by simp;omega
 have h1:(cs.set o v).take (o+1)=cs.take o++[v]:=(by rw[J,List.take_append,h2,w' Z'];simp);have G:(cs.set o v).drop (o+1+vs.length)=cs.drop (o+1+vs.length):=List.drop_set_of_lt Z';unfold db;rw[h1,G];simp[n7,O8 1]
def Xy{a b c:World}{r:Option Nat}(h:a.grownBy b r)(k:b.grownBy c r):a.grownBy c r:=
 ⟨k.os.trans h.os,k.tape.trans h.tape,k.output.trans h.output,d' h.size k.size,λi hi E=>(k.block i (k_ hi h.size) E).trans (h.block i hi E)⟩
def iG(w:World)(b o:Nat)(v:Value):w.grownBy (w.setCell ⟨b,o,none⟩ v) (some b):=
 ⟨rfl,rfl,rfl,by simp[World.setCell],λk _ E=>Below.heap_setCell w _ v k (λe=>E (by rw[e]))⟩
def Qg{b:Nat}{t:TypeId}{fz:Nat×Nat}(o:Nat):∀(vs:List Value)(i:Nat)(cs:List Value)(w:World),w.heap[b]?=some (.cells cs.toArray t fz)->(cs.length<=fz.1\/fz.2<=fz.1)->
  o+i+vs.length<=cs.length->(∀v∈vs,v.oneCell'=true)->
  ∃V,(storeCells ⟨b,o,none⟩ vs i).run P w=.ok () V/\V.heap[b]?=some (.cells (db cs (o+i) vs).toArray t fz)/\w.grownBy V (some b)/\V.heap.size=w.heap.size
 |[],i,cs,w,hw,_,_,_=>⟨w,by simp[storeCells],by rw[Sv];exact hw,World.grownBy.refl _ _,rfl⟩
 |v::vs,i,cs,w,hw,Y,Q,h1=>by
  simp only[T_] at Q;have c:o+i<cs.length:=Z';have E:w.cell? ⟨b,o+i,none⟩=some cs[o+i]:=(by rw[cell_of_row w b (o+i) _ t fz hw];simp[U8 c]);have k:w.frozen? ⟨b,o+i,none⟩=false:=(by simp only[World.frozen?,hw];obtain Y|Y:=Y<;>simp<;>omega);have y:(w.setCell ⟨b,o+i,none⟩ v).heap[b]?=some (.cells (cs.set (o+i) v).toArray t fz):=(by simp[World.setCell,Array.getElem?_modify,hw]);obtain⟨V,H,a,s,K⟩:=Qg (b:=b) (t:=t) (fz:=fz) o vs (i+1) (cs.set (o+i) v) _ y (by simpa using Y) (by simp;omega) (λu hu=>h1 u (L' _ hu));refine⟨V, ?_, ?_,Xy (iG w b (o+i) v) s,K.trans (by simp[World.setCell])⟩
  .simp only[storeCells,Sem.run_bind,Zd,run_store P w ⟨b,o+i,none⟩ v .plain (h1 v (I')),E,k];simpa using H
  rw[gu (by simp;omega)];exact a
def jm(pl:Nat->Option (Nat×Nat)):List Value->List (Nat×Value)->Option (List Value)
 |cs,[]=>some cs
 |cs,(i,v)::r=>
  match pl i with
  |none=>none
  |some (off,size)=>if v.cells.toList.length≠size\/cs.length<off+v.cells.toList.length then none else jm pl (db cs off v.cells.toList) r
def lr:∀(vs:List Value)(k o:Nat)(cs:List Value),o+k+vs.length<=cs.length->(vs.zipIdx k).foldl (λ(cs:Array Value) (x:Value×Nat)=>cs.setIfInBounds (o+x.2) x.1) cs.toArray=(db cs (o+k) vs).toArray
 |[],k,o,cs,_=>by simp[Sv]
 |v::vs,k,o,cs,h=>(by rw[List.zipIdx_cons,S8];simp only[List.setIfInBounds_toArray];rw[lr vs (k+1) o (cs.set (o+k) v) (by simp at h |-;omega),gu (by simp at h |-;omega)];rfl)
def Ou{pl:Nat->Option (Nat×Nat)}:∀(X:List (Nat×Value))(b cs:List Value),jm pl b X=some cs->Instr.fill pl b.toArray X=some cs.toArray
 |[],b,cs,h=>by simp only[jm,g9] at h;subst h;rfl
 |(i,v)::r,b,cs,h=>by
  unfold jm at h;unfold Instr.fill;split at h
  .cases h
  rename_i off size s;split at h
  .cases h
  rename_i E;simp only[ne_eq,not_or,Decidable.not_not,Nat.not_lt] at E;simp only[s];have h1:¬((v.cells.size≠size||decide (off+v.cells.size>b.toArray.size))=true):=by
   have e:v.cells.size=v.cells.toList.length:=by simp
   simp only[e,E.1,z7,V7,h',ne_eq,not_true,decide_false,z6,false_or];omega
  rw[Q' h1];have h2:v.cells.zipIdx.foldl (λ(cs:Array Value) (x:Value×Nat)=>cs.setIfInBounds (off+x.2) x.1) b.toArray=(db b off v.cells.toList).toArray:=(by have:=lr v.cells.toList 0 off b Z';rw[I9] at this;rw[<-this,<-Array.foldl_toList,Array.toList_zipIdx]);exact(Y_ (λx=>Instr.fill pl x r) h2).trans (Ou r _ cs h)
def Bg:Nat->List Value->List Value
 |0,_=>[]
 |n+1,zc=>zc++Bg n zc
def Ni(n:Nat)(zc:List Value):(Bg n zc).length=n*zc.length:=by
 induction n with
 |zero=>simp[Bg]
 |succ n W=>simp[Bg,W,I8,O8]
def gD:∀(n:Nat)(zc:List Value)(i:Nat),i<n*zc.length->(Bg n zc)[i]?=zc[i % zc.length]?
 |0,zc,i,h=>by simp at h
 |n+1,zc,i,h=>by
  unfold Bg;obtain hi|hi:=o_ i zc.length
  .rw[m9 hi,E_ hi]
  rw[S9 hi,gD n zc (i-zc.length) (by rw[I8] at h;omega)];congr 1;rw[Nat.mod_eq_sub_mod hi]
def qx(n:Nat)(zc:List Value):(Array.range (n*zc.length)).map (λi=>zc.toArray[i % zc.length]!)=(Bg n zc).toArray:=by
 apply Array.ext_getElem?;intro i;obtain h|h:=o_ i (n*zc.length)
 .have A:0<zc.length:=by
   obtain J|J:=G8 zc.length
   .rw[J] at h;omega
   exact J
  have hm:i % zc.length<zc.length:=Q_ _ A;simp[h,gD n zc i h,U8 hm]
 have h2:(Bg n zc).length<=i:=by rw[Ni];exact h
 simp[h2,h]
def gF(O:Rf):List (Nat×Operand)->List (Nat×Value)
 |[]=>[]
 |(i,x)::l=>(i,ev O x)::gF O l
def RL{O:Rf}(parts:Array (Nat×Operand)){X:List (Nat×Value)}(h:gF O parts.toList=X):(parts.map λ(i,x)=>(i,ev O x))=X.toArray:=by
 have h1:∀l:List (Nat×Operand),l.map (λ(i,x)=>(i,ev O x))=gF O l:=by
  intro l
  induction l with
  |nil=>rfl
  |cons a l W=>simp only[I_,W];rfl
 subst h;rw[<-h1];apply l7;simp
def ew{V:World}{r:Option Nat}(h:Below w0.heap.size w0 w)(s:w.grownBy V r)(H:∀k,r=some k->w0.heap.size<=k):Below w0.heap.size w0 V:=h.grown s h.size H
def Hp.grown{V:World}{x y:HE}{i:Nat}(h:Hp w0 H w)(hi:H[i]?=some x)(s:w.grownBy V x.id)(j:y.id=x.id\/y.id=none\/y.id=some w.heap.size)(hy:y.holds w0.heap.size V):Hp w0 (H.set i y) V:=by
 refine h.xX hi (λb F=> ?_) (ew h.below s λk u=>(Ye (h.at_ hi) u).1) (λb D E=>s.block b D (λe=>E e.symm)) hy;obtain e|e|e:=j
 .exact .inl (by rw[<-e];exact F)
 .rw[e] at F;cases F
 rw[e] at F;injection F with F
 exact .inr Z'
def Hp.rb(h:Hp w0 H w)(t:TypeId)(sz:Nat):Hp w0 (.row none 0 0 t sz []::H) w:=
 ⟨h.below,λx C=>by
  obtain rfl|C:=u'.1 C
  .exact World.ownsRow_nil _ _ _ _
  exact h.own x C,by show(List.filterMap HE.id H).Nodup;exact h.nd⟩
def Hp.BK(h:Hp w0 H w)(t:TypeId)(cs:List Value):Hp w0 (.blk w.heap.size t cs (0,0)::H) (w.alloc (.cells cs.toArray t)):=
 h.pd ((Below.refl _ _).alloc (E' _) _) ⟨E' _,heap_alloc_new w _,.inr (E' _)⟩
def Hp.DB(h:Hp w0 H w)(t:TypeId)(sz n:Nat)(cs:List Value)(Q:cs.length=n*sz)(B:n<=maxLen):Hp w0 (.row (some ⟨w.heap.size,0,none⟩) n n t sz cs::H) (w.alloc (.cells cs.toArray t)):=
 h.pd ((Below.refl _ _).alloc (E' _) _) ⟨Q,.inr ⟨w.heap.size,n,cs.toArray,rfl,E' _,heap_alloc_new w _,E' _,B,by simpa using Q,by simp only[w' (show cs.length<=n*sz by omega)]⟩⟩
variable {d:Nat}
def fT(I:Hp w0 H w){t:TypeId}{x:Operand}{cs:List Value}{v:Value}(C:ev O x=v)(E:v.cells=cs.toArray)(L:d<N) (k:∀b V,Hp w0 (.blk b t cs (0,0)::H) V->WL ro P N ops Q rest (jd O d (.pointer (some ⟨b,0,none⟩))) V):WL ro P N ops Q (⟨some d,.box t x,ty,pos,af,none⟩::rest) O w:=
 ub rfl rfl L (V:=w.alloc (.cells cs.toArray t)) (v:=.pointer (some ⟨w.heap.size,0,none⟩)) (by simp[execOp,C,Instr.box,newVar,newRow,E]) (k _ _ (I.BK t cs))
def xP(I:Hp w0 H w){t:TypeId}{n by':Nat}{ag:Bool}{zc:List Value}(S:ed P t=some (n,ag,by',zc))(L:d<N) (k:∀b V,Hp w0 (.blk b t zc (0,0)::H) V->WL ro P N ops Q rest (jd O d (.pointer (some ⟨b,0,none⟩))) V):WL ro P N ops Q (⟨some d,.alloc t,ty,pos,af,none⟩::rest) O w:=by
 obtain⟨z,o,r⟩:=Md (w:=w) S;exact ub rfl rfl L (V:=w.alloc (.cells zc.toArray t)) (v:=.pointer (some ⟨w.heap.size,0,none⟩)) (by simp[execOp,Instr.alloc,newVar,newRow,o,r]) (k _ _ (I.BK t zc))
def Tx(I:Hp w0 H w){t f:TypeId}{x y:Operand}{i b o n by':Nat}{ag:Bool}{zc cs vs:List Value}{fz:Nat×Nat}{v:Value}(C:ev O x=.pointer (some ⟨b,o,none⟩))(hi:H[i]?=some (.blk b f cs fz)) (hy:ev O y=v)(E:v.cells=vs.toArray)(S:ed P t=some (n,ag,by',zc))(a:vs.length=n)(W:o+n<=cs.length)(h1:(vs.all Value.oneCell')=true) (k:∀V,Hp w0 (H.set i (.blk b f (db cs o vs) fz)) V->WL ro P N ops Q rest O V):WL ro P N ops Q (⟨none,.store t x y,ty,pos,af,none⟩::rest) O w:=by
 have F:=I.at_ hi;obtain⟨V,c,Y,s,K⟩:=Qg (P:=P) (b:=b) (t:=f) (fz:=fz) o vs 0 cs w F.2.1 F.2.2 Z' (by simpa using h1);refine EM rfl rfl (V:=V) ?_ (k V (I.grown hi s (.inl rfl) ⟨F.1,by simpa using Y,by rw[Qe Z'];exact F.2.2⟩));simp[execOp,C,hy,Instr.storeAt,Instr.sureAddr,storeVar,ff S,a,E,c]
def Xa(I:Hp w0 H w){t f:TypeId}{x y:Operand}{i b o n m c sz by':Nat}{ag:Bool}{zc xs vs:List Value}{v:Value}(C:ev O x=.pointer (some ⟨b,o,none⟩))(hi:H[i]?=some (.row (some ⟨b,0,none⟩) m c f sz xs)) (hy:ev O y=v)(E:v.cells=vs.toArray)(S:ed P t=some (n,ag,by',zc))(j:vs.length=n)(W:o+n<=xs.length)(h1:(vs.all Value.oneCell')=true) (k:∀V,Hp w0 (H.set i (.row (some ⟨b,0,none⟩) m c f sz (db xs o vs))) V->WL ro P N ops Q rest O V):WL ro P N ops Q (⟨none,.store t x y,ty,pos,af,none⟩::rest) O w:=by
 have K:=I.at_ hi;obtain⟨hlen,h2⟩:=K;obtain⟨h2,_⟩|⟨g,cap,cur,A,s,F,q,e,a,d⟩:=h2
 .injection h2 with h2;cases h2
 injection A with R B X
 injection R with R
 injection R with R
 subst R;subst X;have h:cur.size=cur.toList.length:=by simp
 have hle:m*sz<=c*sz:=c_ _ q;obtain⟨V,p,Y,T,u⟩:=Qg (P:=P) (b:=b) (t:=f) (fz:=(0,0)) o vs 0 cur.toList w (by simpa using F) (.inr (E' _)) (by rw[<-h];omega) (by simpa using h1);refine EM rfl rfl (V:=V) ?_ (k V (I.grown hi T (.inl rfl) ⟨by rw[Qe Z'];exact hlen,.inr ⟨b,c,(db cur.toList o vs).toArray,rfl,s,by simpa using Y,q,e, ?_, ?_⟩⟩))
 .simp[execOp,C,hy,Instr.storeAt,Instr.sureAddr,storeVar,ff S,j,E,p]
 .simp only[z7];rw[Qe (by rw[<-h];omega),<-h,a]
 simp only[db];rw[<-d];have r:o+vs.length<=m*sz:=Z';have L:m*sz<=cur.toList.length:=by rw[<-h,a];exact hle
 refine H0 ?_;congr 2;congr 1;omega
def Sb(I:Hp w0 H w){t e:TypeId}{len sz by':Nat}{ag:Bool}{parts:Array (Nat×Operand)}{X:List (Nat×Value)}{zc cs:List Value}(S:P.underlying t=some (.slice e))(D:ed P e=some (sz,ag,by',zc)) (hp:gF O parts.toList=X)(f:zc.length=sz)(Y:jm (λi=>some (i*sz,sz)) (Bg len zc) X=some cs)(J:¬len*sz=0)(hle:len<=1000)(p:len*sz<=16777216)(c:cs.length=len*sz)(L:d<N) (k:∀b V,Hp w0 (.row (some ⟨b,0,none⟩) len len e sz cs::H) V->WL ro P N ops Q rest (jd O d (.slice (some ⟨b,0,none⟩) len len)) V):WL ro P N ops Q (⟨some d,.buildSlice t len parts,ty,pos,af,none⟩::rest) O w:=by
 obtain⟨z,o,r⟩:=Md (w:=w) D;refine ub rfl rfl L (V:=w.alloc (.cells cs.toArray e)) (v:=.slice (some ⟨w.heap.size,0,none⟩) len len) ?_ (k _ _ (I.DB e sz len cs c (by unfold maxLen;omega)));exact ace
def Yx(P:Program)(t:TypeId):Option (List (Nat×Nat)):=
 match P.underlying t with
 |some (.struct fs)=>fs.toList.mapM λf=>(P.info? f.type).map λi=>(f.offset,i.size)
 |_=>none
def Jx{P:Program}{w:World}:∀(l:List Field)(pl:List (Nat×Nat)),(l.mapM λf=>(P.info? f.type).map λi=>(f.offset,i.size))=some pl->(l.mapM (m:=Sem) λf=>do pure (f.offset,<-sizeOf f.type)).run P w=.ok pl w
 |[],pl,h=>(by simp at h;subst h;simp)
 |f::l,pl,h=>by
  rw[List.mapM_cons] at h
  cases hi:P.info? f.type with
  |none=>simp[hi] at h
  |some i=>
   cases H:l.mapM (λf=>(P.info? f.type).map λi=>(f.offset,i.size)) with
   |none=>simp[H] at h
   |some a=>
    simp[hi,H] at h;have W:=Jx (w:=w) l a H;have K:(sizeOf f.type).run P w=.ok i.size w:=by simp[sizeOf,typeInfo,hi]
    rw[List.mapM_cons,Sem.run_bind,Sem.run_bind,K,Result.andThen_ok,Sem.run_pure,Result.andThen_ok,Sem.run_bind,W,Result.andThen_ok,Sem.run_pure,h]
def yC{dd:Option Nat}{g:Option (Nat×Bool)}{t:TypeId}{n by':Nat}{parts:Array (Nat×Operand)}{X:List (Nat×Value)}{zc cs:List Value}{pl:List (Nat×Nat)}(D:ed P t=some (n,true,by',zc)) (s:Yx P t=some pl) (hp:gF O parts.toList=X)(Y:jm (pl[·]?) zc X=some cs):(execOp (ev O) ⟨dd,.build t parts,ty,pos,af,g⟩).run P w=.ok (.value (.agg cs.toArray)) w:=by
 obtain⟨z,o,r⟩:=Md (w:=w) D;unfold Yx at s;split at s
 .rename_i fs i;have h1:=Jx (w:=w) _ _ s;have h2:(fs.mapM (m:=Sem) λf=>do pure (f.offset,<-sizeOf f.type)).run P w=.ok pl.toArray w:=by
   have e:fs=fs.toList.toArray:=by simp
   rw[e,List.mapM_toArray,Sem.run_map,h1];rfl
  have T:=Ou _ _ _ Y;have W:(λ(x:Nat)=>pl.toArray[x]?)=λx=>pl[x]?:=by funext x;simp
  have a:=RL parts hp;simp only[execOp,a,Instr.build,Sem.run_bind,o,Result.andThen_ok,run_underlying i,h2,r,W,T,Sem.run_pure]
 cases s
def Gh(A:Option Addr)(n c:Nat):(Value.slice A n c).ownBlock=A.map (·.block):=by cases A<;>rfl
def Gn(n:Nat)(z:Value):Bg n [z]=List.replicate n z:=by
 induction n with
 |zero=>rfl
 |succ n W=>simp[Bg,W,S7]
def ND{w:World}{b:Addr}{xs:List Value}{m:Int}{k:Nat}{v:Value}(h:Rd w b xs)(C:xs[k]?=some v)(hm:m=(k:Int)):w.cell? (b.add (m.toNat*1))=some v:=by
 subst hm;simpa using h k v C
def bj(l:List UInt8):List Value:=l.map λc=>.int .u8 c.toNat
def qi(l:List UInt8):(bj l).length=l.length:=by simp[bj]
def Bq(base:Nat)(t ty e:TypeId)(i:TypeInfo)(S:P.underlying t=some (.slice e))(hi:P.info? e=some i) (v:Value)(n:Nat)(xs:List Value)(sz:Nat)(W:w.ownsRow base e sz v n xs)(c:Nat):(Builtin.append_ #[t,t] ty #[v,.slice none 0 c]).run P w=.ok v w:=by
 obtain⟨rfl,rfl⟩|⟨g,cap,cur,rfl,_,_,r,_⟩:=W.2
 .simp[Builtin.append_,run_underlying S,sizeOf,typeInfo,hi,Builtin.lenOf,Builtin.firstCells]
 simp[Builtin.append_,run_underlying S,sizeOf,typeInfo,hi,Builtin.lenOf,Builtin.firstCells,r,storeCells]
def Iy(base:Nat)(t ty e:TypeId)(sz by':Nat)(ag:Bool)(zc:List Value)(S:P.underlying t=some (.slice e))(D:ed P e=some (sz,ag,by',zc))(o:zc.length=sz)(M:0<sz) (A:Option Addr)(n c:Nat)(xs:List Value)(W:w.ownsRow base e sz (.slice A n c) n xs)(B:Option Addr)(m c':Nat)(news:List Value)(p:Sl w B m sz news)(h1:∀u∈news,u.oneCell'=true) (X:n+m<=maxLen)(a:(n+m)*by'<=140737488355328)(v:base<=w.heap.size):
  ∃T Y V,(Builtin.append_ #[t,t] ty #[.slice A n c,.slice B m c']).run P w=.ok (.slice T (n+m) Y) V/\V.ownsRow base e sz (.slice T (n+m) Y) (n+m) (xs++news)/\
   w.grownBy V (A.map (·.block))/\(T.map (·.block)=A.map (·.block)\/T.map (·.block)=none\/T.map (·.block)=some w.heap.size):=by
 obtain⟨i,z,d,hi,C,x,K,h,l,_⟩:=Je D;have s:z.cells.size=sz:=by rw[l];simpa using o
 have fin:∀(b:Addr),B=some b->Rd w b news->∃T Y V,(Builtin.append_ #[t,t] ty #[.slice A n c,.slice B m c']).run P w=.ok (.slice T (n+m) Y) V/\V.ownsRow base e sz (.slice T (n+m) Y) (n+m) (xs++news)/\
   w.grownBy V (A.map (·.block))/\(T.map (·.block)=A.map (·.block)\/T.map (·.block)=none\/T.map (·.block)=some w.heap.size):=by
  rintro b rfl H;obtain⟨v',V,q,h2,G,_,f⟩:=run_append_own_at (P:=P) w base t ty e i z sz by' S hi x K h s M (.slice A n c) n xs W b m c' news p.1 H h1 X a v;rw[Gh] at G;obtain⟨k,J⟩|⟨g,cap,cur,k,r⟩:=h2.2
  .subst k;refine⟨none,0,V,by rw[q,J],by rw[J];exact J ▸ h2,G,.inr (.inl rfl)⟩
  subst k;refine⟨_,_,V,q,h2,G, ?_⟩;obtain f|f:=f
  .exact .inl (by rw[<-Gh _ (n+m) cap,f,Gh])
  exact .inr (.inr (by rw[<-Gh _ (n+m) cap,f]))
 obtain J|J:=G8 m
 .subst J;have y:news=[]:=Q8 (by simpa using p.1);subst y
  cases B with
  |none=>exact⟨A,c,w,Bq base t ty e i S hi _ n xs sz W c',by simpa using W,World.grownBy.refl _ _,.inl rfl⟩
  |some b=>exact fin b rfl (λj u hu=>by simp at hu)
 obtain⟨b,E,H⟩:=p.2 J;exact fin b E H
def iy{A:Option Addr}{n c:Nat}{l:List UInt8}(h:Sl w A n 1 (bj l)):(Conv.bytesToString (.slice A n c)).run P w=.ok (.string ⟨l.toArray⟩) w:=by
 have B:l.length=n:=by have:=h.1;rw[qi] at this;omega
 cases A with
 |none=>
  have J:n=0:=by
   obtain J|J:=G8 n
   .exact J
   obtain⟨b,h1,_⟩:=h.2 J;cases h1
  have:l=[]:=Q8 Z';subst this;simp[Conv.bytesToString,ByteArray.empty,ByteArray.emptyWithCapacity];rfl
 |some a=>
  have H:Rd w a (bj l):=by
   obtain J|J:=G8 n
   .have:l=[]:=Q8 Z';subst this;intro j u hu;simp[bj] at hu
   obtain⟨b,h1,h2⟩:=h.2 J;injection h1 with h1;subst h1;exact h2
  have N:bj l=(l.map λc:UInt8=>(c.toNat:Int)).map (Value.int .u8):=by simp[bj]
  have d:=run_loadCells_list (P:=P) w a (bj l) H;rw[qi,B,N] at d;rw[run_bytesToString w a n c _ d];congr 2;have:∀(l:List UInt8)(s:ByteArray),(l.map λc:UInt8=>(c.toNat:Int)).foldl (λr n=>r.push (UInt8.ofNat n.toNat)) s=⟨s.data++l.toArray⟩:=by
   intro l
   induction l with
   |nil=>intro s;simp
   |cons c l W=>
    intro s;simp only[I_,S8];rw[W];have:(s.push (UInt8.ofNat ((c.toNat:Int)).toNat)).data=s.data.push c:=by simp[ByteArray.push]
    rw[this];congr 1;apply l7;simp
  rw[this];congr 1;apply l7;simp[ByteArray.empty,ByteArray.emptyWithCapacity];rfl
def mb(I:Hp w0 H w){t e:TypeId}{s x:Operand}{i n c m c' sz by':Nat}{ag:Bool}{A B:Option Addr}{zc xs news:List Value}(hi:H[i]?=some (.row A n c e sz xs))(K:ev O s=.slice A n c)(C:ev O x=.slice B m c') (p:Sl w B m sz news)(S:P.underlying t=some (.slice e))(D:ed P e=some (sz,ag,by',zc))(f:zc.length=sz)(M:0<sz)(h1:(news.all Value.oneCell')=true) (X:n+m<=9223372036854775807)(a:(n+m)*by'<=140737488355328)(L:d<N) (k:∀T Y V,Hp w0 (H.set i (.row T (n+m) Y e sz (xs++news))) V->WL ro P N ops Q rest (jd O d (.slice T (n+m) Y)) V):
  WL ro P N ops Q (⟨some d,.call ⟨.builtin .append, #[s,x], #[t,t]⟩,ty,pos,af,none⟩::rest) O w:=by
 obtain⟨T,Y,V,g,W,b,j⟩:=Iy (P:=P) w0.heap.size t ty e sz by' ag zc S D f M A n c xs (I.at_ hi) B m c' news p (by simpa using h1) (by unfold maxLen;omega) a I.size;refine ub rfl rfl L (V:=V) (v:=.slice T (n+m) Y) ?_ (k T Y V (I.grown hi b j W));simp only[execOp,resolve,invoke,builtin,Sem.run_bind,Sem.run_pure,Result.andThen_ok,List.map_toArray,I_,R9,K,C,g]
def Ee(I:Hp w0 H w){t e:TypeId}{l g:Operand}{c m:IntKind}{L C:Int}{n sz by':Nat}{ag:Bool}{zc:List Value}(p:ev O l=.int c L)(E:ev O g=.int m C)(h:L=(n:Int))(M:C=(n:Int)) (S:P.underlying t=some (.slice e))(D:ed P e=some (sz,ag,by',zc))(f:zc.length=sz)(F:by'*n<=281474976710656)(X:n<=9223372036854775807)(o:d<N) (k:∀b V,Hp w0 (.row (some ⟨b,0,none⟩) n n e sz (Bg n zc)::H) V->WL ro P N ops Q rest (jd O d (.slice (some ⟨b,0,none⟩) n n)) V):
  WL ro P N ops Q (⟨some d,.makeSlice t l g,ty,pos,af,none⟩::rest) O w:=by
 obtain⟨i,z,dd,hi,T,u,K,G,r,_⟩:=Je D;subst h;subst M;obtain⟨V,q,W,s⟩:=run_make_full (P:=P) w w.heap.size t e i z sz S hi u K c m n (by rw[G];exact F) (by unfold maxLen;omega) (E' _);have A:(madeCells z.cells (n*sz)).toList=Bg n zc:=(by exact adW);rw[A] at W;refine ub rfl rfl o (V:=V) (v:=.slice (some ⟨w.heap.size,0,none⟩) n n) ?_ (k _ V (I.pd ⟨s.os,s.tape,s.output,s.size,λj hj=>s.block j hj (by simp)⟩ W));simp[execOp,p,E,q]
def Mx(I:Hp w0 H w){t e:TypeId}{sz by':Nat}{ag:Bool}{zc:List Value}(a:P.underlying t=some (.slice e))(D:ed P e=some (sz,ag,by',zc))(L:d<N) (k:∀b V,Hp w0 (.row (some ⟨b,0,none⟩) 0 0 e sz []::H) V->WL ro P N ops Q rest (jd O d (.slice (some ⟨b,0,none⟩) 0 0)) V):WL ro P N ops Q (⟨some d,.buildSlice t 0 #[],ty,pos,af,none⟩::rest) O w:=by
 refine ub rfl rfl L (V:=w.alloc (.cells #[] e)) (v:=.slice (some ⟨w.heap.size,0,none⟩) 0 0) ?_ (k _ _ (I.DB e sz 0 [] (by simp) (by unfold maxLen;omega)));have S:Array.range 0= #[]:=rfl;simp[execOp,Instr.buildSlice,run_underlying a,ff D,Instr.fill,newRow,S]
def Li{dd:Option Nat}{g:Option (Nat×Bool)}{s t e:TypeId}{x:Operand}{A:Option Addr}{n c:Nat}{l:List UInt8}(K:P.underlying s=some (.slice e))(he:P.underlying e=some (.int .u8))(S:P.underlying t=some .string) (C:ev O x=.slice A n c)(h:Sl w A n 1 (bj l)):(execOp (ev O) ⟨dd,.convert s t x,ty,pos,af,g⟩).run P w=.ok (.value (.string ⟨l.toArray⟩)) w:=by
 simp[execOp,C,run_convert_bytes_string w s t e A n c K he S,iy h]
def JB(I:Hp w0 H w){s t e:TypeId}{x:Operand}{b:ByteArray}(K:P.underlying s=some .string)(S:P.underlying t=some (.slice e))(he:P.underlying e=some (.int .u8))(C:ev O x=.string b)(L:d<N) (k:∀g c ex V,Hp w0 (.blk g e (bj b.data.toList++ex) ((bj b.data.toList++ex).length,(bj b.data.toList++ex).length+1)::H) V->WL ro P N ops Q rest (jd O d (.slice (some ⟨g,0,none⟩) b.size c)) V):
  WL ro P N ops Q (⟨some d,.convert s t x,ty,pos,af,none⟩::rest) O w:=by
 let c:=grownCap w b.size 0 e
 let ex:List Value:=List.replicate (c-b.size) (.int .u8 0)
 let cells:List Value:=bj b.data.toList++ex
 let Z:=w.drew.alloc (.cells cells.toArray e)
 let V:=Z.freeze ⟨w.heap.size,cells.length,none⟩ 1
 have a:Z.heap[w.heap.size]?=some (.cells cells.toArray e (0,0)):=heap_alloc_new w.drew _;have F:V.heap[w.heap.size]?=some (.cells cells.toArray e (cells.length,cells.length+1)):=(by show(Z.heap.modify w.heap.size _)[w.heap.size]?=_;rw[Array.getElem?_modify,P' rfl,a];simp);have Y:Below w.heap.size w V:=by
  refine⟨rfl,rfl,rfl, ?_,λj hj=> ?_⟩
  .show w.heap.size<=(Z.heap.modify w.heap.size _).size;rw[Array.size_modify];show w.heap.size<=Z.heap.size;simp[Z]
  show(Z.heap.modify w.heap.size _)[j]?=_;rw[Array.getElem?_modify,Q' Z'];exact Below.heap_alloc w.drew _ j hj
 refine ub rfl rfl L (V:=V) (v:=.slice (some ⟨w.heap.size,0,none⟩) b.size c) ?_ (k w.heap.size c ex V (I.pd Y ⟨E' _,F,.inl (E' _)⟩));have f:(b.data.map λb=>Value.int .u8 b.toNat)++Array.replicate (c-b.size) (Value.int .u8 0)=cells.toArray:=(by apply l7;simp[cells,ex,bj]);have l:Z.shape? w.heap.size=some (e,cells.length):=by simp[World.shape?,a]
 have D:(choose (.appendCap b.size 0 e)).run P w=.ok c w.drew:=by simp[choose,Sem.run,Question.forced,grownCap,c]
 have p:(newRow e cells.toArray).run P w.drew=.ok ⟨w.heap.size,0,none⟩ Z:=by simp[newRow,Z]
 have h:(markStringish ⟨w.heap.size,0,none⟩).run P Z=.ok () V:=by simp[markStringish,shape,Sem.run,l,freeze,V]
 simp only[execOp,C,convert,Sem.run_bind,run_underlying K,run_underlying S,run_underlying he,Result.andThen_ok,Conv.stringToBytes];rw[D,Result.andThen_ok,f,p,Result.andThen_ok,h,Result.andThen_ok,Sem.run_pure,Result.andThen_ok,Sem.run_pure]
def Lr(I:Hp w0 H w){t:TypeId}{x:Operand}{s:ByteArray}(S:P.underlying t=some .string)(C:ev O x=.string s)(L:d<N) (k:∀b V,Hp w0 (.it b s 0::H) V->WL ro P N ops Q rest (jd O d (.pointer (some ⟨b,0,none⟩))) V):WL ro P N ops Q (⟨some d,.range t x,ty,pos,af,none⟩::rest) O w:=by
 refine ub rfl rfl L (V:=w.alloc (.stringIter s 0)) (v:=.pointer (some ⟨w.heap.size,0,none⟩)) (by simp[execOp,C,Instr.range,run_underlying S]) (k _ _ (I.pd ((Below.refl _ _).alloc (E' _) _) ⟨E' _,heap_alloc_new w _⟩))
def Oq(I:Hp w0 H w){x:Operand}{i b p:Nat}{s:ByteArray}(hi:H[i]?=some (.it b s p))(C:ev O x=.pointer (some ⟨b,0,none⟩))(hp:¬p<s.size)(L:d<N) (k:WL ro P N ops Q rest (jd O d (.tuple #[.bool false])) w):WL ro P N ops Q (⟨some d,.next x true,ty,pos,af,none⟩::rest) O w:=by
 have h1:=(I.at_ hi).2;refine ub rfl rfl L (V:=w) (v:=.tuple #[.bool false]) ?_ k;simp[execOp,C,Instr.next,getObj,Sem.run,h1,hp]
def cq(I:Hp w0 H w){x:Operand}{i b p:Nat}{s:ByteArray}{c:UInt8}(hi:H[i]?=some (.it b s p))(C:ev O x=.pointer (some ⟨b,0,none⟩))(j:s.data.toList[p]?=some c)(f:c.toNat<128)(L:d<N) (k:∀V,Hp w0 (H.set i (.it b s (p+1))) V->WL ro P N ops Q rest (jd O d (.tuple #[.bool true,.int .i64 p,.int .i32 c.toNat])) V):WL ro P N ops Q (⟨some d,.next x true,ty,pos,af,none⟩::rest) O w:=by
 have h1:=(I.at_ hi).2;obtain⟨D,h⟩:=x'.1 j;have a:p<s.size:=by simpa using D
 have n:s.get! p=c:=(by have:s.get! p=s.data[p]! :=rfl;rw[this,getElem!_pos s.data p a];simpa using h);have g:Utf8.decode s p=(c.toNat,1):=(by unfold Utf8.decode;simp only[I9,n];rw[P' f])
 let V:World:={ w with heap:=w.heap.setIfInBounds b (.stringIter s (p+1)) }
 have F:=Ye (I.at_ hi) (b:=b) rfl;have l:w.grownBy V (some b):=⟨rfl,rfl,rfl,by simp[V],λk _ E=>by
  show(w.heap.setIfInBounds b _)[k]?=_;rw[Array.getElem?_setIfInBounds_ne (λe=>E (by rw[e]))]⟩
 refine ub rfl rfl L (V:=V) (v:=.tuple #[.bool true,.int .i64 p,.int .i32 c.toNat]) ?_ (k V (I.grown hi l (.inl rfl) ⟨F.1, ?_⟩))
 .simp[execOp,C,Instr.next,getObj,setObj,Sem.run,h1,a,g,goInt,V]
 show(w.heap.setIfInBounds b _)[b]?=_;simp[F.2]
class UK(k:IntKind)(b:outParam Nat)(M:outParam Nat):Prop where
 bits:k.bits=b
 sgn:k.signed=false
 pow:2^b=M
instance:UK .u8 8 256:=⟨rfl,rfl,rfl⟩
instance:UK .u16 16 65536:=⟨rfl,rfl,rfl⟩
instance:UK .u32 32 4294967296:=⟨rfl,rfl,rfl⟩
instance:UK .u64 64 18446744073709551616:=⟨rfl,rfl,rfl⟩
def UK.wrap{k:IntKind}{b M:Nat}[h:UK k b M](n:Nat):k.wrap (n:Int)=((n % M:Nat):Int):=by
 unfold IntKind.wrap;have s:(2:Int)^k.bits=(M:Int):=by rw[h.bits,<-h.pow];simp
 simp only[h.sgn,s,Y6];simp
def UK.Zq{k:IntKind}{b M:Nat}[UK k b M]{n:Nat}(B:n<M):k.wrap (n:Int)=(n:Int):=by rw[UK.wrap,E_ B]
def UK.wrap_add{k:IntKind}{b M:Nat}[h:UK k b M](z:Int):k.wrap (z+M)=k.wrap z:=by
 unfold IntKind.wrap;have s:(2:Int)^k.bits=(M:Int):=by rw[h.bits,<-h.pow];simp
 simp[s]
variable {d:Option Nat}{q M a b:Nat}
def Cf[UK k q M](C:ev O x=.int k (a:Int))(hy:ev O y=.int k (b:Int)):(execOp (ev O) ⟨d,.binOp .add t x y u,ty,pos,af,g⟩).run P w=.ok (.value (.int k (((a+b) % M:Nat):Int))) w:=by
 rw[P2 C hy,<-V8,UK.wrap]
def Xk[UK k q M](C:ev O x=.int k (a:Int))(hy:ev O y=.int k (b:Int))(F:b<=M):(execOp (ev O) ⟨d,.binOp .sub t x y u,ty,pos,af,g⟩).run P w=.ok (.value (.int k (((a+M-b) % M:Nat):Int))) w:=by
 rw[MY C hy,<-UK.wrap (k:=k)];have h:((a+M-b:Nat):Int)=(a:Int)-b+M:=Z';rw[h,UK.wrap_add]
def Lg[UK k q M](C:ev O x=.int k (a:Int))(hy:ev O y=.int k (b:Int)):(execOp (ev O) ⟨d,.binOp .mul t x y u,ty,pos,af,g⟩).run P w=.ok (.value (.int k (((a*b) % M:Nat):Int))) w:=by
 rw[R0 C hy,<-F9,UK.wrap]
def zI[UK k q M](C:ev O x=.int k (a:Int))(hy:ev O y=.int k (b:Int))(F:0<b)(c:a<M):(execOp (ev O) ⟨d,.binOp .quo t x y u,ty,pos,af,g⟩).run P w=.ok (.value (.int k ((a/b:Nat):Int))) w:=by
 rw[wY C hy Z',<-Int.ofNat_tdiv,UK.Zq (l_ (H8 _ _) c)]
def aD(C:ev O x=.int k (a:Int))(hy:ev O y=.int k (b:Int))(F:0<b):(execOp (ev O) ⟨d,.binOp .rem t x y u,ty,pos,af,g⟩).run P w=.ok (.value (.int k ((a % b:Nat):Int))) w:=by
 rw[ZZ C hy Z',<-Int.ofNat_tmod]
def Rn(n:Nat)(a:Nat):BitVec.ofInt n (a:Int)=BitVec.ofNat n a:=by simp
def HY[h:UK k q M](C:ev O x=.int k (a:Int))(hy:ev O y=.int k (b:Int))(c:a<M)(F:b<M):(execOp (ev O) ⟨d,.binOp .or t x y u,ty,pos,af,g⟩).run P w=.ok (.value (.int k ((a|||b:Nat):Int))) w:=by
 rw[age C hy,Rn,Rn,BitVec.toNat_or,BitVec.toNat_ofNat,BitVec.toNat_ofNat,h.bits,h.pow,E_ c,E_ F,UK.Zq];rw[<-h.pow] at c F |-;exact Nat.or_lt_two_pow c F
def jH[h:UK k q M](C:ev O x=.int k (a:Int))(hy:ev O y=.int k (b:Int))(c:a<M)(F:b<M):(execOp (ev O) ⟨d,.binOp .and t x y u,ty,pos,af,g⟩).run P w=.ok (.value (.int k ((a &&& b:Nat):Int))) w:=by
 rw[DZ C hy,Rn,Rn,BitVec.toNat_and,BitVec.toNat_ofNat,BitVec.toNat_ofNat,h.bits,h.pow,E_ c,E_ F,UK.Zq];exact l_ Nat.and_le_left c
def Cn[h:UK k q M]{c:IntKind}{s:Int}(C:ev O x=.int k (a:Int))(hy:ev O y=.int c s)(K:0<=s/\s<=q):(execOp (ev O) ⟨d,.binOp .shl t x y u,ty,pos,af,g⟩).run P w=.ok (.value (.int k (((a*2^s.toNat) % M:Nat):Int))) w:=by
 have e:(a:Int)*2^(min s.toNat k.bits)=((a*2^s.toNat:Nat):Int):=(by rw[h.bits,P9 Z',F9,q6];rfl);rw[adg C hy K.1,e,UK.wrap]
def Tp[h:UK k q M]{c:IntKind}{s:Int}(C:ev O x=.int k (a:Int))(hy:ev O y=.int c s)(K:0<=s/\s<=q):(execOp (ev O) ⟨d,.binOp .shr t x y u,ty,pos,af,g⟩).run P w=.ok (.value (.int k ((a/2^s.toNat:Nat):Int))) w:=by
 rw[N0 C hy K.1,h.bits,P9 Z',Int.fdiv_eq_ediv_of_nonneg _ (Int.le_of_lt (Int.pow_pos Z'))];simp
def aeT[UK k q M]{c:IntKind}{s m:Nat}(C:ev O x=.int k (a:Int))(hy:ev O y=.int c (s:Int))(K:s<=q)(hm:2^s=m):(execOp (ev O) ⟨d,.binOp .shl t x y u,ty,pos,af,g⟩).run P w=.ok (.value (.int k (((a*m) % M:Nat):Int))) w:=by
 rw[Cn C hy Z',<-hm];rfl
def ao[UK k q M]{c:IntKind}{s m:Nat}(C:ev O x=.int k (a:Int))(hy:ev O y=.int c (s:Int))(K:s<=q)(hm:2^s=m):(execOp (ev O) ⟨d,.binOp .shr t x y u,ty,pos,af,g⟩).run P w=.ok (.value (.int k ((a/m:Nat):Int))) w:=by
 rw[Tp C hy Z',<-hm];rfl
def jT[h:UK k q M](C:ev O x=.int k (a:Int))(b:a<=M):(execOp (ev O) ⟨d,.unOp .neg t x,ty,pos,af,g⟩).run P w=.ok (.value (.int k (((M-a) % M:Nat):Int))) w:=by
 rw[W1 C,<-UK.wrap (k:=k)];have e:((M-a:Nat):Int)= -(a:Int)+M:=Z';rw[e,UK.wrap_add]
def VV[UK k q M]{s t:TypeId}{c:IntKind}{b:TypeDesc}(K:P.underlying s=some b)(S:P.underlying t=some (.int k))(C:ev O x=.int c (a:Int)):(execOp (ev O) ⟨d,.convert s t x,ty,pos,af,g⟩).run P w=.ok (.value (.int k ((a % M:Nat):Int))) w:=by
 rw[Wk K S C,UK.wrap]
def vw[UK k q M]{s t:TypeId}{c:IntKind}{e:TypeDesc}(K:P.underlying s=some e)(S:P.underlying t=some (.int k))(C:ev O x=.int c (a:Int))(b:a<M):(execOp (ev O) ⟨d,.convert s t x,ty,pos,af,g⟩).run P w=.ok (.value (.int k (a:Int))) w:=by
 rw[Wk K S C,UK.Zq b]
variable {a b:Int}
def yM(C:ev O x=.int k a)(hy:ev O y=.int k b):(execOp (ev O) ⟨d,.binOp .lss t x y u,ty,pos,af,g⟩).run P w=.ok (.value (.bool (decide (a<b)))) w:=by
 by_cases h:a<b
 .rw[vV C hy h,m' h]
 rw[SX C hy h,k' h]
def TL(C:ev O x=.int k a)(hy:ev O y=.int k b):(execOp (ev O) ⟨d,.binOp .leq t x y u,ty,pos,af,g⟩).run P w=.ok (.value (.bool (decide (a<=b)))) w:=by
 by_cases h:a<=b
 .rw[BX C hy h,m' h]
 rw[HX C hy h,k' h]
def eM(C:ev O x=.int k a)(hy:ev O y=.int k b):(execOp (ev O) ⟨d,.binOp .gtr t x y u,ty,pos,af,g⟩).run P w=.ok (.value (.bool (decide (b<a)))) w:=by
 by_cases h:b<a
 .rw[LV C hy h,m' h]
 rw[tW C hy h,k' h]
def mW(C:ev O x=.int k a)(hy:ev O y=.int k b):(execOp (ev O) ⟨d,.binOp .geq t x y u,ty,pos,af,g⟩).run P w=.ok (.value (.bool (decide (b<=a)))) w:=by
 by_cases h:b<=a
 .rw[HW C hy h,m' h]
 rw[jX C hy h,k' h]
def kL(C:ev O x=.int k a)(hy:ev O y=.int k b):(execOp (ev O) ⟨d,.binOp .neq t x y u,ty,pos,af,g⟩).run P w=.ok (.value (.bool (decide (a≠b)))) w:=by
 by_cases h:a=b
 .rw[iX C hy h,k' (by simpa using h)]
 rw[YW C hy h,m' h]
variable {a b:Bool}
def JK(S:P.underlying t=some .bool)(C:ev O x=.bool a)(hy:ev O y=.bool b)(h:a=b):(execOp (ev O) ⟨d,.binOp .eql t x y u,ty,pos,af,g⟩).run P w=.ok (.value (.bool true)) w:=by
 rw[kx S C hy,h,beq_self_eq_true]
def kV(S:P.underlying t=some .bool)(C:ev O x=.bool a)(hy:ev O y=.bool b)(h:¬a=b):(execOp (ev O) ⟨d,.binOp .eql t x y u,ty,pos,af,g⟩).run P w=.ok (.value (.bool false)) w:=by
 rw[kx S C hy,beq_false_of_ne h]
def WJ(S:P.underlying t=some .bool)(C:ev O x=.bool a)(hy:ev O y=.bool b)(h:¬a=b):(execOp (ev O) ⟨d,.binOp .neq t x y u,ty,pos,af,g⟩).run P w=.ok (.value (.bool true)) w:=by
 rw[Df S C hy,bne,beq_false_of_ne h];rfl
def rX(S:P.underlying t=some .bool)(C:ev O x=.bool a)(hy:ev O y=.bool b)(h:a=b):(execOp (ev O) ⟨d,.binOp .neq t x y u,ty,pos,af,g⟩).run P w=.ok (.value (.bool false)) w:=by
 rw[Df S C hy,bne,h,beq_self_eq_true];rfl
def pb{t e:TypeId}{x i:Operand}{b:Addr}{n c sz k:Nat}{p:IntKind}{m:Int}(S:P.underlying t=some (.slice e))(M:(P.info? e).map (·.size)=some sz)(C:ev O x=.slice (some b) n c)(hi:ev O i=.int p m) (hm:m=(k:Int))(h1:k<n):(execOp (ev O) ⟨d,.indexAddr t x i,ty,pos,af,g⟩).run P w=.ok (.value (.pointer (some (b.add (k*sz))))) w:=by
 rw[vg S M C hi Z' Z',hm];rfl
def Jp{t e:TypeId}{x i:Operand}{b o n c sz k:Nat}{p:IntKind}{m:Int}(S:P.underlying t=some (.slice e))(M:(P.info? e).map (·.size)=some sz)(C:ev O x=.slice (some ⟨b,o,none⟩) n c)(hi:ev O i=.int p m) (hm:m=(k:Int))(h1:k<n):(execOp (ev O) ⟨d,.indexAddr t x i,ty,pos,af,g⟩).run P w=.ok (.value (.pointer (some ⟨b,o+k*sz,none⟩))) w:=by
 rw[vg S M C hi Z' Z',hm,Zd];rfl
def XH{t e:TypeId}{x i:Operand}{b:Addr}{n sz k:Nat}{p:IntKind}{m:Int}(S:P.underlying t=some (.array n e))(M:(P.info? e).map (·.size)=some sz)(C:ev O x=.pointer (some b))(hi:ev O i=.int p m) (hm:m=(k:Int))(h1:k<n):(execOp (ev O) ⟨d,.indexAddr t x i,ty,pos,af,g⟩).run P w=.ok (.value (.pointer (some (b.add (k*sz))))) w:=by
 obtain⟨i,H,v⟩:=y9.1 M;have h2:(k:Int)<n:=Z';subst hm;simp[execOp,C,hi,Instr.indexAt,asIntOf,run_underlying S,sizeOf,typeInfo,H,v,Instr.sureAddr,h1]
def Rh{t e:TypeId}{x hi:Operand}{A:Option Addr}{n c h sz:Nat}{k:IntKind}{m:Int}(S:P.underlying t=some (.slice e))(M:(P.info? e).map (·.size)=some sz)(C:ev O x=.slice A n c)(f:ev O hi=.int k m) (hm:m=(h:Int))(h2:h<=c):(execOp (ev O) ⟨d,.slice t x none (some hi) none,ty,pos,af,g⟩).run P w=.ok (.value (.slice A h c)) w:=by
 rw[xf (lo:=none) (hi:=some hi) (l:=0) (h:=h) S M C rfl ⟨k,m,f,hm⟩ (J' _) h2];congr 3
 cases A with
 |none=>simp
 |some b=>simp[Addr.add]
def xI{t e:TypeId}{x lo:Operand}{b o n c l sz:Nat}{k:IntKind}{m:Int}(S:P.underlying t=some (.slice e))(M:(P.info? e).map (·.size)=some sz)(C:ev O x=.slice (some ⟨b,o,none⟩) n c)(p:ev O lo=.int k m) (hm:m=(l:Int))(h1:l<=n)(h2:n<=c)(G:l<c):(execOp (ev O) ⟨d,.slice t x (some lo) none none,ty,pos,af,g⟩).run P w=.ok (.value (.slice (some ⟨b,o+l*sz,none⟩) (n-l) (c-l))) w:=by
 rw[xf (lo:=some lo) (hi:=none) (l:=l) (h:=n) S M C ⟨k,m,p,hm⟩ rfl h1 h2,Q' Z'];simp only[p9,Zd]
def OD{t e:TypeId}{x lo:Operand}{b:Addr}{n c l sz:Nat}{k:IntKind}{m:Int}(S:P.underlying t=some (.slice e))(M:(P.info? e).map (·.size)=some sz)(C:ev O x=.slice (some b) n c)(p:ev O lo=.int k m) (hm:m=(l:Int))(h1:l<=n)(h2:n<=c)(G:l<c):(execOp (ev O) ⟨d,.slice t x (some lo) none none,ty,pos,af,g⟩).run P w=.ok (.value (.slice (some (b.add (l*sz))) (n-l) (c-l))) w:=by
 rw[xf (lo:=some lo) (hi:=none) (l:=l) (h:=n) S M C ⟨k,m,p,hm⟩ rfl h1 h2,Q' Z'];rfl
def Rd.Yr{w:World}{b:Addr}{xs:List Value}{k:Nat}{v:Value}(h:Rd w b xs)(C:xs[k]?=some v):w.cell? (b.add (k*1))=some v:=by
 rw[X_];exact h k v C
def Rb(l:List Nat):List Value:=l.map λ(d:Nat)=>.int .u64 (d:Int)
def ya(l:List Nat):(Rb l).length=l.length:=by simp[Rb]
def Dd{l:List Nat}{k d:Nat}(h:l[k]?=some d):(Rb l)[k]?=some (.int .u64 (d:Int)):=by simp[Rb,h]
def Vf(l:List Nat)(k d:Nat):(Rb l).set k (.int .u64 (d:Int))=Rb (l.set k d):=by simp[Rb,B9]
def NG(a b:List Nat):Rb (a++b)=Rb a++Rb b:=by simp[Rb]
def xz(a:List Nat)(k:Nat):Rb (a.take k)=(Rb a).take k:=by simp[Rb,List.map_take]
def Xz(a:List Nat)(k:Nat):Rb (a.drop k)=(Rb a).drop k:=by simp[Rb,V6]
def xb(l:List Nat):((Rb l).all Value.oneCell')=true:=by simp[Rb,Value.oneCell']
def rj(n:Nat):Bg n [Value.int .u64 0]=Rb (List.replicate n 0):=by rw[Gn];simp[Rb]
def ig(l:List Nat):List Value:=l.map λ(d:Nat)=>.int .u8 (d:Int)
def Bc(l:List Nat):(ig l).length=l.length:=by simp[ig]
def Qm{l:List Nat}{k d:Nat}(h:l[k]?=some d):(ig l)[k]?=some (.int .u8 (d:Int)):=by simp[ig,h]
def Tr(l:List Nat)(k d:Nat):(ig l).set k (.int .u8 (d:Int))=ig (l.set k d):=by simp[ig,B9]
def Bw(a b:List Nat):ig (a++b)=ig a++ig b:=by simp[ig]
def PD(a:List Nat)(k:Nat):ig (a.take k)=(ig a).take k:=by simp[ig,List.map_take]
def Nb(l:List Nat):((ig l).all Value.oneCell')=true:=by simp[ig,Value.oneCell']
def Rq(n:Nat):Bg n [Value.int .u8 0]=ig (List.replicate n 0):=by rw[Gn];simp[ig]
def DN{l:List Nat}(h:∀d∈l,d<256):ig l=bj (l.map UInt8.ofNat):=by
 rw[ig,bj,A_];apply z9;intro d T;have:=h d T;simp only[Function.comp,p6];congr 2;omega
def Sl.tO{w:World}{b:Addr}{n:Nat}{ys:List Nat}{k d:Nat}(h:Sl w (some b) n 1 (Rb ys))(T:ys[k]?=some d):w.cell? (b.add (k*1))=some (.int .u64 (d:Int)):=by
 have Q:=h.1;have u:=(x'.1 T).1;rw[ya] at Q;obtain⟨x,he,H⟩:=h.2 Z';injection he with he
 subst he;exact H.Yr (Dd T)
def PC{pre done r post:List Nat}{x:Nat}:(pre++(done++x::r)++post)[pre.length+done.length]?=some x:=by
 rw[H_,S9 Z',H_,S9 Z'];simp
def yo{pre done r post:List Nat}{x y:Nat}:(pre++(done++x::r)++post).set (pre.length+done.length) y=pre++((done++[y])++r)++post:=by
 rw[H_,F8 _ _ Z',H_,F8 _ _ Z'];simp
def Qb{cs:List Value}{o:Nat}{v:Value}(h:o<cs.length):db cs o [v]=cs.set o v:=by
 unfold db;rw[x6,P' h];simp
def Hp.front{w0 w:World}{H:List HE}{x:HE}(h:Hp w0 H w)(i:Nat)(hi:H[i]?=some x):Hp w0 (x::H.eraseIdx i) w:=by
 have hp:H.Perm (x::H.eraseIdx i):=by
  clear h
  induction H generalizing i with
  |nil=>simp at hi
  |cons y H W=>
   cases i with
   |zero=>simp at hi;subst hi;simp
   |succ i=>
    simp only[p7] at hi;simp only[List.eraseIdx_cons_succ];exact((W i hi).cons y).trans (List.Perm.swap x y _)
 exact⟨h.below,λy hy=>h.own y (hp.mem_iff.2 hy),(hp.filterMap _).nodup_iff.1 h.nd⟩
def Hp.CB{w0 w:World}{H:List HE}{A:Option Addr}{n c:Nat}{t:TypeId}{sz:Nat}{xs:List Value}(h:Hp w0 (.row A n c t sz xs::H) w){k:Nat}(u:k<=n):Hp w0 (.row A k c t sz (xs.take (k*sz))::H) w:=by
 refine⟨h.below,λy hy=> ?_,h.nd⟩;obtain rfl|hy:=u'.1 hy
 .have h1:w.ownsRow w0.heap.size t sz (.slice A n c) n xs:=h.own _ I';obtain⟨h2,G⟩:=h1;have s:k*sz<=n*sz:=c_ _ u;refine⟨by rw[p'];omega, ?_⟩;obtain⟨G,z⟩|⟨g,cap,cur,b,F,a,z,P,L,N⟩:=G
  .injection G with P L N
   subst P L N;exact .inl ⟨by rw[show k=0 by omega],Z'⟩
  injection b with B X l
  subst B;refine .inr ⟨g,cap,cur,by rw[l],F,a,Z',P,L, ?_⟩;rw[<-N,List.take_take,P9 s]
 exact h.own y (L' _ hy)
def Hp.ve{w0 w:World}{H:List HE}{A:Option Addr}{n c:Nat}{t:TypeId}{sz:Nat}{xs:List Value}{i:Nat}(h:Hp w0 H w)(hi:H[i]?=some (.row A n c t sz xs)):n<=c:=by
 have h1:w.ownsRow w0.heap.size t sz (.slice A n c) n xs:=h.at_ hi;obtain⟨G,z⟩|⟨g,cap,cur,a,F,s,z,P,L,N⟩:=h1.2
 .omega
 injection a with B X l
 omega
variable {d:Nat}{a:Int}
def ab3(C:ev O x=.int .i64 a)(h1: -9223372036854775808<= -a)(h2: -a<=9223372036854775807)(L:d<N)(p:WL ro P N ops Q rest (jd O d (.int .i64 (-a))) w):
  WL ro P N ops Q (⟨some d,.unOp .neg t x,ty,pos,af,none⟩::rest) O w:=ub rfl rfl L (sH C h1 h2) p
variable {b:Int}
def aak(C:ev O x=.int .i64 a)(hy:ev O y=.int .i64 b)(M:0<=a)(F:0<b)(h2:a<=9223372036854775807)(L:d<N)(p:WL ro P N ops Q rest (jd O d (.int .i64 (a/b))) w):
  WL ro P N ops Q (⟨some d,.binOp .quo t x y u,ty,pos,af,none⟩::rest) O w:=ub rfl rfl L (Rm C hy M F h2) p
def abo(C:ev O x=.int .i64 a)(hy:ev O y=.int .i64 b)(M:0<=a)(F:0<b)(L:d<N)(p:WL ro P N ops Q rest (jd O d (.int .i64 (a % b))) w):
  WL ro P N ops Q (⟨some d,.binOp .rem t x y u,ty,pos,af,none⟩::rest) O w:=ub rfl rfl L (rl C hy M F) p
def SI{s t:TypeId}{x:Operand}{k c:IntKind}{a:Int}{b:TypeDesc}(K:P.underlying s=some b)(S:P.underlying t=some (.int k))(C:ev O x=.int c a)(L:d<N)(p:WL ro P N ops Q rest (jd O d (.int k (k.wrap a))) w):
  WL ro P N ops Q (⟨some d,.convert s t x,ty,pos,af,none⟩::rest) O w:=ub rfl rfl L (Wk K S C) p
def pJ{s t:TypeId}{x:Operand}{c:IntKind}{a:Int}{b:TypeDesc}(K:P.underlying s=some b)(S:P.underlying t=some (.int .i64))(C:ev O x=.int c a)(h1: -9223372036854775808<=a)(h2:a<=9223372036854775807)(L:d<N)(p:WL ro P N ops Q rest (jd O d (.int .i64 a)) w):
  WL ro P N ops Q (⟨some d,.convert s t x,ty,pos,af,none⟩::rest) O w:=ub rfl rfl L (Dp K S C h1 h2) p
def VO{x:Operand}{t:TypeId}{s:ByteArray}(S:P.underlying t=some .string)(C:ev O x=.string s)(L:d<N)(p:WL ro P N ops Q rest (jd O d (.int .i64 s.size)) w):
  WL ro P N ops Q (⟨some d,.call ⟨.builtin .len, #[x], #[t]⟩,ty,pos,af,none⟩::rest) O w:=ub rfl rfl L (Es S C) p
def adm{x y:Operand}{ts:Array TypeId}{k:IntKind}{a b:Int}(C:ev O x=.int k a)(hy:ev O y=.int k b)(L:d<N)(p:WL ro P N ops Q rest (jd O d (.int k (if b<a then b else a))) w):
  WL ro P N ops Q (⟨some d,.call ⟨.builtin .min, #[x,y],ts⟩,ty,pos,af,none⟩::rest) O w:=ub rfl rfl L (aew C hy) p
def adv{x y:Operand}{ts:Array TypeId}{k:IntKind}{a b:Int}(C:ev O x=.int k a)(hy:ev O y=.int k b)(L:d<N)(p:WL ro P N ops Q rest (jd O d (.int k (if b>a then b else a))) w):
  WL ro P N ops Q (⟨some d,.call ⟨.builtin .max, #[x,y],ts⟩,ty,pos,af,none⟩::rest) O w:=ub rfl rfl L (aeE C hy) p
def yD{t:TypeId}{x i:Operand}{s:ByteArray}{n:Int}{k:IntKind}{c:UInt8}(S:P.underlying t=some .string)(C:ev O x=.string s)(hi:ev O i=.int k n) (J:0<=n)(E:s.data.toList[n.toNat]?=some c)(L:d<N)(p:WL ro P N ops Q rest (jd O d (.int .u8 c.toNat)) w):
  WL ro P N ops Q (⟨some d,.index t x i,ty,pos,af,none⟩::rest) O w:=ub rfl rfl L (Gm S C hi J E) p
def LD{t e:TypeId}{x i:Operand}{b:Addr}{n c sz:Nat}{k:IntKind}{m:Int}(S:P.underlying t=some (.slice e))(M:(P.info? e).map (·.size)=some sz)(C:ev O x=.slice (some b) n c)(hi:ev O i=.int k m) (J:0<=m)(h1:m<n)(L:d<N)(p:WL ro P N ops Q rest (jd O d (.pointer (some (b.add (m.toNat*sz))))) w):
  WL ro P N ops Q (⟨some d,.indexAddr t x i,ty,pos,af,none⟩::rest) O w:=ub rfl rfl L (vg S M C hi J h1) p
def vH{t e:TypeId}{x i:Operand}{b n c sz k:Nat}{p:IntKind}{m:Int}(S:P.underlying t=some (.slice e))(M:(P.info? e).map (·.size)=some sz)(C:ev O x=.slice (some ⟨b,0,none⟩) n c)(hi:ev O i=.int p m) (hm:m=(k:Int))(h1:k<n)(L:d<N)(p:WL ro P N ops Q rest (jd O d (.pointer (some ⟨b,k*sz,none⟩))) w):
  WL ro P N ops Q (⟨some d,.indexAddr t x i,ty,pos,af,none⟩::rest) O w:=ub rfl rfl L (Lc S M C hi hm h1) p
def abD{t:TypeId}{x:Operand}{b:Addr}{n by':Nat}{zc vs:List Value}(S:ed P t=some (n,true,by',zc))(C:ev O x=.pointer (some b))(H:Rd w b vs)(a:vs.length=n)(L:d<N)(p:WL ro P N ops Q rest (jd O d (.agg vs.toArray)) w):
  WL ro P N ops Q (⟨some d,.load t x,ty,pos,af,none⟩::rest) O w:=ub rfl rfl L (Ka S C H a) p
def QV{t:TypeId}{x:Operand}{b:Addr}{n by':Nat}{zc:List Value}{v:Value}(S:ed P t=some (n,false,by',zc))(C:ev O x=.pointer (some b))(E:w.cell? b=some v)(L:d<N)(p:WL ro P N ops Q rest (jd O d v) w):
  WL ro P N ops Q (⟨some d,.load t x,ty,pos,af,none⟩::rest) O w:=ub rfl rfl L (Ba S C E) p
def pC{s:TypeId}{x:Operand}{f off:Nat}{b:Addr}{q:TypeId}(Y:Wf P s f=some (off,q))(C:ev O x=.pointer (some b))(L:d<N)(p:WL ro P N ops Q rest (jd O d (.pointer (some (b.add off)))) w):
  WL ro P N ops Q (⟨some d,.fieldAddr s x f,ty,pos,af,none⟩::rest) O w:=ub rfl rfl L (Al Y C) p
def cS{s:TypeId}{x:Operand}{f off n by':Nat}{q:TypeId}{cs:Array Value}{v:Value}{zc:List Value}(Y:Wf P s f=some (off,q))(S:ed P q=some (n,false,by',zc))(C:ev O x=.agg cs)(A:cs[off]?=some v)(L:d<N)(p:WL ro P N ops Q rest (jd O d v) w):
  WL ro P N ops Q (⟨some d,.field s x f,ty,pos,af,none⟩::rest) O w:=ub rfl rfl L (qQ Y S C A) p
def TX{s:TypeId}{x:Operand}{f off n by':Nat}{q:TypeId}{cs vs:Array Value}{zc:List Value}(Y:Wf P s f=some (off,q))(S:ed P q=some (n,true,by',zc))(C:ev O x=.agg cs)(A:cs.extract off (off+n)=vs)(L:d<N)(p:WL ro P N ops Q rest (jd O d (.agg vs)) w):
  WL ro P N ops Q (⟨some d,.field s x f,ty,pos,af,none⟩::rest) O w:=ub rfl rfl L (WV Y S C A) p
def PO{t e:TypeId}{x i:Operand}{b:Addr}{n c sz k:Nat}{p:IntKind}{m:Int}(S:P.underlying t=some (.slice e))(M:(P.info? e).map (·.size)=some sz)(C:ev O x=.slice (some b) n c)(hi:ev O i=.int p m) (hm:m=(k:Int))(h1:k<n)(L:d<N)(p:WL ro P N ops Q rest (jd O d (.pointer (some (b.add (k*sz))))) w):
  WL ro P N ops Q (⟨some d,.indexAddr t x i,ty,pos,af,none⟩::rest) O w:=ub rfl rfl L (pb S M C hi hm h1) p
def sv{op:Op}{v:Value}(H:(execOp (ev O) ⟨some d,op,ty,pos,af,none⟩).run P w=.ok (.value v) w)(p:WL ro P N ops Q rest (jd O d v) w)(L:d<N:=by decide):WL ro P N ops Q (⟨some d,op,ty,pos,af,none⟩::rest) O w:=ub rfl rfl L H p
def Wa:Qs O []=[]:=rfl
def qa{x:Operand}{l:List Operand}{v:Value}{r:List Value}(C:ev O x=v)(h:Qs O l=r):Qs O (x::l)=v::r:=by simp only[Qs,C,h]
def ae:gF O []=[]:=rfl
def Eb{i:Nat}{x:Operand}{l:List (Nat×Operand)}{v:Value}{r:List (Nat×Value)}(C:ev O x=v)(h:gF O l=r):gF O ((i,x)::l)=(i,v)::r:=by simp only[gF,C,h]
def ym(P:Program)(f:FuncId):Bool:=match P.funcs[f]? with|some fn=> !fn.body.isNone && !(fn.name== "runtime.NumGoroutine")|none=>false
def oA{P:Program}{f:FuncId}(h:ym P f=true):∃fn,P.funcs[f]?=some fn/\fn.body.isNone=false/\(fn.name== "runtime.NumGoroutine")=false:=by
 unfold ym at h;split at h
 .rename_i fn Y;simp only[l',n8] at h;exact⟨fn,Y,h.1,h.2⟩
 cases h
def La{dd:Option Nat}{g:Option (Nat×Bool)}{f:FuncId}{args:Array Operand}{ts:Array TypeId}{vs:List Value}(Y:ym P f=true)(M:Qs O args.toList=vs):(execOp (ev O) ⟨dd,.call ⟨.value (.func f),args,ts⟩,ty,pos,af,g⟩).run P w=.ok (.enter f vs.toArray) w:=by
 obtain⟨fn,h1,h2,G⟩:=oA Y;have:=jU (P:=P) (w:=w) (d:=dd) (ty:=ty) (pos:=pos) (af:=af) (g:=g) (ts:=ts) h1 h2 G (show ev O (.func f)=.func (.func f) #[] #[] from rfl) (Qq args M);simpa using this
def vO{dd:Option Nat}{g:Option (Nat×Bool)}{x:Operand}{f:FuncId}{args:Array Operand}{ts:Array TypeId}{first cap vs:List Value}(Y:ym P f=true)(C:ev O x=.func (.func f) first.toArray cap.toArray)(M:first++(Qs O args.toList++cap)=vs):(execOp (ev O) ⟨dd,.call ⟨.value x,args,ts⟩,ty,pos,af,g⟩).run P w=.ok (.enter f vs.toArray) w:=by
 obtain⟨fn,h1,h2,G⟩:=oA Y;have:=jU (P:=P) (w:=w) (d:=dd) (ty:=ty) (pos:=pos) (af:=af) (g:=g) (ts:=ts) h1 h2 G C (Qq args rfl);subst M;simpa using this
def Tc{f:FuncId}{args:Array Operand}{ts:Array TypeId}{vs:List Value}{R:Ending->World->Prop}(E:Calls P f vs.toArray w R)(Y:ym P f=true)(M:Qs O args.toList=vs)(L:d<N) (p:∀e V,R e V->∃v,e=.returned v/\WL ro P N ops Q rest (jd O d v) V):WL ro P N ops Q (⟨some d,.call ⟨.value (.func f),args,ts⟩,ty,pos,af,none⟩::rest) O w:=
 yG rfl rfl L (La Y M) E p
def Hh{x:Operand}{f:FuncId}{args:Array Operand}{ts:Array TypeId}{first cap vs:List Value}{R:Ending->World->Prop}(E:Calls P f vs.toArray w R)(Y:ym P f=true)(C:ev O x=.func (.func f) first.toArray cap.toArray)(M:first++(Qs O args.toList++cap)=vs)(L:d<N) (p:∀e V,R e V->∃v,e=.returned v/\WL ro P N ops Q rest (jd O d v) V):WL ro P N ops Q (⟨some d,.call ⟨.value x,args,ts⟩,ty,pos,af,none⟩::rest) O w:=
 yG rfl rfl L (vO Y C M) E p
end Go.Proofs.YtbencocchdpikaaGreatDoor
