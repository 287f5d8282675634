/- Lemmas for ratioEncloses, part 1. -/
import Derived.KernelRfl
import Derived.WalkKit
import Derived.WalkLawsBesides
import Derived.Below
import Derived.Laws.OwnMore
import Derived.Laws.Rows
import Derived.RegionTactic
import Derived.ControlIn
import Derived.TacticsIn
import Derived.AtR
import Derived.Deep.AppendLies
import Derived.Maps.AppendAt
import Derived.OwnWalk
import Derived.Test.YtbencocchdpikaaGreatDoorProg
import Derived.Test.YtbencocchdpikaaGreatDoorRows
set_option linter.all false
set_option maxHeartbeats 0
namespace Go.Proofs.YtbencocchdpikaaGreatDoor
open Go.Proofs.Tryz
abbrev wd(x:Int):Value:=.int .i64 x
abbrev wn(a:Option Addr)(n c:Nat):Value:=.slice a n c
abbrev wt(s:ByteArray):Value:=.string s
abbrev ww(b:Bool):Value:=.bool b
abbrev t3:=List Nat
abbrev t4:=List Int
abbrev t5:=List Dyadic
abbrev t6:=Option Addr
abbrev t7:=ByteArray
def R':type_of% @if_neg:=@if_neg
def Q':type_of% @if_pos:=@if_pos
def P':type_of% @List.Sublist.cons_cons:=@List.Sublist.cons_cons
def O':type_of% @List.mem_of_getElem?:=@List.mem_of_getElem?
def N':type_of% @Nat.zero_le:=@Nat.zero_le
def L':type_of% @List.Sublist.cons:=@List.Sublist.cons
def J':type_of% @List.nil_append:=@List.nil_append
def I':type_of% @List.cons_append:=@List.cons_append
def G':type_of% @List.take_of_length_le:=@List.take_of_length_le
def F':type_of% @Nat.le_refl:=@Nat.le_refl
def E':type_of% @List.mem_cons_self:=@List.mem_cons_self
def D':type_of% @List.length_append:=@List.length_append
def C':type_of% @List.getElem?_map:=@List.getElem?_map
def B':type_of% @List.length_map:=@List.length_map
def z':type_of% @List.getElem?_eq_some_iff:=@List.getElem?_eq_some_iff
def y':type_of% @List.mem_cons:=@List.mem_cons
def x':type_of% @List.mem_map:=@List.mem_map
def w':type_of% @decide_eq_true:=@decide_eq_true
def u':type_of% @List.mem_cons_of_mem:=@List.mem_cons_of_mem
def r':type_of% @List.length_reverse:=@List.length_reverse
def q':type_of% @List.length_take:=@List.length_take
def p':type_of% @Nat.le_trans:=@Nat.le_trans
def m':type_of% @decide_eq_false:=@decide_eq_false
def l':type_of% @List.set_cons_zero:=@List.set_cons_zero
def k':type_of% @List.mem_singleton:=@List.mem_singleton
def j':type_of% @List.Sublist.slnil:=@List.Sublist.slnil
def i':type_of% @Nat.zero_add:=@Nat.zero_add
def d':type_of% @Nat.mul_comm:=@Nat.mul_comm
def Z_:type_of% @Bool.and_eq_true:=@Bool.and_eq_true
def Y_:type_of% @decide_eq_true_eq:=@decide_eq_true_eq
def X_:type_of% @List.getElem?_eq_none:=@List.getElem?_eq_none
def W_:type_of% @Nat.mul_one:=@Nat.mul_one
def V_:type_of% @List.length_cons:=@List.length_cons
def U_:type_of% @List.perm_middle:=@List.perm_middle
def T_:type_of% @List.map_cons:=@List.map_cons
def S_:type_of% @List.mem_range:=@List.mem_range
def R_:type_of% @Nat.mod_lt:=@Nat.mod_lt
def Q_:type_of% @Nat.pow_add:=@Nat.pow_add
def P_:type_of% @Option.some.inj:=@Option.some.inj
def O_:type_of% @Nat.mul_le_mul_left:=@Nat.mul_le_mul_left
def N_:type_of% @List.nil_sublist:=@List.nil_sublist
def M_:type_of% @List.all_eq_true:=@List.all_eq_true
def L_:type_of% @Nat.pow_pos:=@Nat.pow_pos
def K_:type_of% @Nat.pow_le_pow_right:=@Nat.pow_le_pow_right
def J_:type_of% @List.append_assoc:=@List.append_assoc
def I_:type_of% @List.append_nil:=@List.append_nil
def H_:type_of% @List.mem_append_right:=@List.mem_append_right
def G_:type_of% @Nat.mod_eq_of_lt:=@Nat.mod_eq_of_lt
def F_:type_of% @Bool.false_or:=@Bool.false_or
def E_:type_of% @List.map_map:=@List.map_map
def C_:type_of% @congrArg:=@congrArg
def B_:type_of% @Nat.pow_succ:=@Nat.pow_succ
def A_:type_of% @List.mem_append:=@List.mem_append
def z_:type_of% @Nat.lt_or_ge:=@Nat.lt_or_ge
def y_:type_of% @List.getElem?_range:=@List.getElem?_range
def u_:type_of% @List.Sublist.refl:=@List.Sublist.refl
def t_:type_of% @Nat.sub_self:=@Nat.sub_self
def s_:type_of% @List.ext_getElem?:=@List.ext_getElem?
def r_:type_of% @List.mem_iff_getElem?:=@List.mem_iff_getElem?
def q_:type_of% @List.map_append:=@List.map_append
def o_:type_of% @List.getD_eq_getElem?_getD:=@List.getD_eq_getElem?_getD
def n_:type_of% @Nat.mul_le_mul_right:=@Nat.mul_le_mul_right
def m_:type_of% @Int.natCast_mul:=@Int.natCast_mul
def l_:type_of% @List.getElem?_reverse:=@List.getElem?_reverse
def k_:type_of% @Nat.div_eq_of_lt:=@Nat.div_eq_of_lt
def j_:type_of% @Nat.mul_add:=@Nat.mul_add
def i_:type_of% @List.not_mem_nil:=@List.not_mem_nil
def g_:type_of% @List.getElem?_set:=@List.getElem?_set
def f_:type_of% @List.map_nil:=@List.map_nil
def d_:type_of% @List.sublist_cons_self:=@List.sublist_cons_self
def c_:type_of% @Nat.lt_of_lt_of_le:=@Nat.lt_of_lt_of_le
def Z9:type_of% @List.set_cons_succ:=@List.set_cons_succ
def Y9:type_of% @List.take_append_drop:=@List.take_append_drop
def X9:type_of% @Nat.lt_of_le_of_lt:=@Nat.lt_of_le_of_lt
def W9:type_of% @Nat.pow_mul:=@Nat.pow_mul
def V9:type_of% @Nat.mul_assoc:=@Nat.mul_assoc
def U9:type_of% @Nat.succ_mul:=@Nat.succ_mul
def T9:type_of% @Nat.min_eq_left:=@Nat.min_eq_left
def S9:type_of% @Nat.div_lt_iff_lt_mul:=@Nat.div_lt_iff_lt_mul
def R9:type_of% @List.getElem?_append_right:=@List.getElem?_append_right
def Q9:type_of% @List.length_drop:=@List.length_drop
def P9:type_of% @List.any_eq_false:=@List.any_eq_false
def O9:type_of% @Nat.mul_le_mul:=@Nat.mul_le_mul
def N9:type_of% @Nat.add_zero:=@Nat.add_zero
def M9:type_of% @List.length_replicate:=@List.length_replicate
def L9:type_of% @Nat.div_add_mod:=@Nat.div_add_mod
def K9:type_of% @Array.getD_eq_getD_getElem?:=@Array.getD_eq_getD_getElem?
def J9:type_of% @List.map_congr_left:=@List.map_congr_left
def I9:type_of% @List.length_set:=@List.length_set
def H9:type_of% @List.mem_filterMap:=@List.mem_filterMap
def G9:type_of% @Int.natCast_add:=@Int.natCast_add
def F9:type_of% @Option.getD_some:=@Option.getD_some
def E9:type_of% @List.any_eq_true:=@List.any_eq_true
def D9:type_of% @List.getElem?_eq_getElem:=@List.getElem?_eq_getElem
def C9:type_of% @Classical.not_not:=@Classical.not_not
def B9:type_of% @Nat.add_mul_div_left:=@Nat.add_mul_div_left
def A9:type_of% @List.mem_filter:=@List.mem_filter
def z9:type_of% @Int.toNat_natCast:=@Int.toNat_natCast
def y9:type_of% @Option.map_eq_some_iff:=@Option.map_eq_some_iff
def x9:type_of% @List.take_zero:=@List.take_zero
def u9:type_of% @Nat.div_div_eq_div_mul:=@Nat.div_div_eq_div_mul
def s9:type_of% @List.eq_nil_of_length_eq_zero:=@List.eq_nil_of_length_eq_zero
def q9:type_of% @List.mem_append_left:=@List.mem_append_left
def p9:type_of% @Nat.mul_succ:=@Nat.mul_succ
def o9:type_of% @List.getElem?_append_left:=@List.getElem?_append_left
def n9:type_of% @Option.map_some:=@Option.map_some
def m9:type_of% @List.drop_eq_getElem_cons:=@List.drop_eq_getElem_cons
def l9:type_of% @List.pairwise_cons:=@List.pairwise_cons
def k9:type_of% @List.mem_flatMap:=@List.mem_flatMap
def j9:type_of% @of_decide_eq_true:=@of_decide_eq_true
def g9:type_of% @Int.sign_eq_neg_one_of_neg:=@Int.sign_eq_neg_one_of_neg
def c9:type_of% @List.map_set:=@List.map_set
def a9:type_of% @Nat.eq_zero_or_pos:=@Nat.eq_zero_or_pos
def Z8:type_of% @List.mem_of_mem_take:=@List.mem_of_mem_take
def Y8:type_of% @List.reverse_cons:=@List.reverse_cons
def X8:type_of% @Int.sign_eq_one_of_pos:=@Int.sign_eq_one_of_pos
def W8:type_of% @beq_iff_eq:=@beq_iff_eq
def V8:type_of% @Nat.add_mul_mod_self_left:=@Nat.add_mul_mod_self_left
def U8:type_of% @List.getElem?_drop:=@List.getElem?_drop
def T8:type_of% @List.drop_of_length_le:=@List.drop_of_length_le
def S8:type_of% @List.any_append:=@List.any_append
def R8:type_of% @Nat.one_mul:=@Nat.one_mul
def Q8:type_of% @List.any_cons:=@List.any_cons
def P8:type_of% @List.getElem?_take:=@List.getElem?_take
def O8:type_of% @Bool.and_eq_true_iff:=@Bool.and_eq_true_iff
def N8:type_of% @Classical.byContradiction:=@Classical.byContradiction
def M8:type_of% @List.any_nil:=@List.any_nil
def L8:type_of% @List.getElem?_toArray:=@List.getElem?_toArray
def K8:type_of% @Nat.add_mul:=@Nat.add_mul
def J8:type_of% @List.range_succ:=@List.range_succ
def I8:type_of% @List.reverse_reverse:=@List.reverse_reverse
def H8:type_of% @Int.natAbs_mul:=@Int.natAbs_mul
def G8:type_of% @List.nodup_cons:=@List.nodup_cons
def F8:type_of% @Nat.add_comm:=@Nat.add_comm
def E8:type_of% @Option.some.injEq:=@Option.some.injEq
def D8:type_of% @Array.getElem?_eq_getElem:=@Array.getElem?_eq_getElem
def C8:type_of% @List.filterMap_cons:=@List.filterMap_cons
def B8:type_of% @Nat.div_le_self:=@Nat.div_le_self
def A8:type_of% @List.getElem?_zipWith:=@List.getElem?_zipWith
def z8:type_of% @Dyadic.add_zero:=@Dyadic.add_zero
def y8:type_of% @Nat.div_one:=@Nat.div_one
def x8:type_of% @Nat.mul_zero:=@Nat.mul_zero
def s8:type_of% @List.mem_reverse:=@List.mem_reverse
def r8:type_of% @List.flatMap_append:=@List.flatMap_append
def q8:type_of% @List.set_append_right:=@List.set_append_right
def p8:type_of% @List.map_id:=@List.map_id
def o8:type_of% @Int.pow_pos:=@Int.pow_pos
def n8:type_of% @List.length_eq_zero_iff:=@List.length_eq_zero_iff
def m8:type_of% @Nat.mul_lt_mul_of_pos_right:=@Nat.mul_lt_mul_of_pos_right
def l8:type_of% @List.reverse_append:=@List.reverse_append
def k8:type_of% @Dyadic.zero_add:=@Dyadic.zero_add
def j8:type_of% @Int.mul_neg:=@Int.mul_neg
def g8:type_of% @List.length_range:=@List.length_range
def e8:type_of% @List.perm_append_comm:=@List.perm_append_comm
def a8:type_of% @List.replicate_succ:=@List.replicate_succ
def Z7:type_of% @Bool.or_eq_true:=@Bool.or_eq_true
def Y7:type_of% @List.foldl_cons:=@List.foldl_cons
def X7:type_of% @Array.all_eq_true':=@Array.all_eq_true'
def W7:type_of% @Nat.zero_mul:=@Nat.zero_mul
def V7:type_of% @Bool.not_true:=@Bool.not_true
def U7:type_of% @List.drop_drop:=@List.drop_drop
def T7:type_of% @List.drop_zero:=@List.drop_zero
def S7:type_of% @Int.natAbs_pow:=@Int.natAbs_pow
def R7:type_of% @Dyadic.one_mul:=@Dyadic.one_mul
def Q7:type_of% @Bool.eq_false_iff:=@Bool.eq_false_iff
def P7:type_of% @Nat.add_assoc:=@Nat.add_assoc
def O7:type_of% @Int.neg_neg:=@Int.neg_neg
def N7:type_of% @Nat.mod_add_div:=@Nat.mod_add_div
def M7:type_of% @List.flatMap_cons:=@List.flatMap_cons
def L7:type_of% @Nat.mul_left_comm:=@Nat.mul_left_comm
def K7:type_of% @List.filter_append:=@List.filter_append
def J7:type_of% @List.take_succ_cons:=@List.take_succ_cons
def I7:type_of% @List.map_singleton:=@List.map_singleton
def H7:type_of% @Nat.mul_pos:=@Nat.mul_pos
def G7:type_of% @List.length_nil:=@List.length_nil
def F7:type_of% @Nat.pow_zero:=@Nat.pow_zero
def E7:type_of% @List.length_pos_iff:=@List.length_pos_iff
def D7:type_of% @Bool.false_eq_true:=@Bool.false_eq_true
def C7:type_of% @Array.ext':=@Array.ext'
def B7:type_of% @List.size_toArray:=@List.size_toArray
def A7:type_of% @Nat.not_lt_zero:=@Nat.not_lt_zero
def z7:type_of% @List.map_drop:=@List.map_drop
def y7:type_of% @Int.le_of_lt:=@Int.le_of_lt
def x7:type_of% @Int.natAbs_ediv_le_natAbs:=@Int.natAbs_ediv_le_natAbs
def u7:type_of% @List.foldl_append:=@List.foldl_append
def s7:type_of% @Dyadic.pow_zero:=@Dyadic.pow_zero
def q7:type_of% @List.getElem?_cons_zero:=@List.getElem?_cons_zero
def p7:type_of% @List.getElem?_zip_eq_some:=@List.getElem?_zip_eq_some
def o7:type_of% @Bool.not_eq_true':=@Bool.not_eq_true'
def n7:type_of% @List.getElem?_cons_succ:=@List.getElem?_cons_succ
def m7:type_of% @List.map_id':=@List.map_id'
def l7:type_of% @List.sum_cons:=@List.sum_cons
def k7:type_of% @Bool.false_and:=@Bool.false_and
def j7:type_of% @Nat.le_mul_of_pos_left:=@Nat.le_mul_of_pos_left
def g7:type_of% @UInt8.toNat_inj:=@UInt8.toNat_inj
def a7:type_of% @Dyadic.mul_zero:=@Dyadic.mul_zero
def Z6:type_of% @Int.sign_eq_zero_iff_zero:=@Int.sign_eq_zero_iff_zero
def Y6:type_of% @List.getElem?_mapIdx:=@List.getElem?_mapIdx
def X6:type_of% @Int.mul_comm:=@Int.mul_comm
def W6:type_of% @decide_eq_false_iff_not:=@decide_eq_false_iff_not
def V6:type_of% @Int.tdiv_eq_ediv_of_nonneg:=@Int.tdiv_eq_ediv_of_nonneg
def U6:type_of% @List.cons.injEq:=@List.cons.injEq
def T6:type_of% @Array.getElem?_eq_none:=@Array.getElem?_eq_none
def S6:type_of% @List.length_zipWith:=@List.length_zipWith
def R6:type_of% @Nat.lt_of_not_le:=@Nat.lt_of_not_le
def Q6:type_of% @List.map_toArray:=@List.map_toArray
def P6:type_of% @Int.mul_le_mul:=@Int.mul_le_mul
def O6:type_of% @Nat.le_of_lt:=@Nat.le_of_lt
def N6:type_of% @Int.lt_trichotomy:=@Int.lt_trichotomy
def M6:type_of% @UInt8.toNat_ofNat':=@UInt8.toNat_ofNat'
def L6:type_of% @Nat.mul_lt_mul'':=@Nat.mul_lt_mul''
def K6:type_of% @Int.ediv_nonneg:=@Int.ediv_nonneg
def J6:type_of% @List.set_eq_take_append_cons_drop:=@List.set_eq_take_append_cons_drop
def I6:type_of% @List.sublist_append_left:=@List.sublist_append_left
def H6:type_of% @Array.length_toList:=@Array.length_toList
def G6:type_of% @List.countP_eq_length:=@List.countP_eq_length
def F6:type_of% @Dyadic.zero_mul:=@Dyadic.zero_mul
def E6:type_of% @List.replicate_zero:=@List.replicate_zero
def D6:type_of% @List.length_finRange:=@List.length_finRange
def C6:type_of% @List.take_length:=@List.take_length
def B6:type_of% @Int.eq_ofNat_of_zero_le:=@Int.eq_ofNat_of_zero_le
def A6:type_of% @Option.bind_some:=@Option.bind_some
def z6:type_of% @List.all_append:=@List.all_append
def y6:type_of% @Int.natCast_pow:=@Int.natCast_pow
def x6:type_of% @Nat.le_of_not_lt:=@Nat.le_of_not_lt
def u6:type_of% @Nat.lt_trichotomy:=@Nat.lt_trichotomy
def q6:type_of% @List.Pairwise.nil:=@List.Pairwise.nil
def p6:type_of% @List.filterMap_append:=@List.filterMap_append
def o6:type_of% @List.filter_cons_of_neg:=@List.filter_cons_of_neg
def n6:type_of% @List.countP_replicate:=@List.countP_replicate
def m6:type_of% @List.pairwise_singleton:=@List.pairwise_singleton
def l6:type_of% @List.drop_eq_nil_of_le:=@List.drop_eq_nil_of_le
def k6:type_of% @List.getElem?_replicate:=@List.getElem?_replicate
def j6:type_of% @List.mem_of_mem_drop:=@List.mem_of_mem_drop
def g6:type_of% @List.exists_cons_of_ne_nil:=@List.exists_cons_of_ne_nil
def e6:type_of% @Array.toList_setIfInBounds:=@Array.toList_setIfInBounds
def c6:type_of% @List.contains_iff_mem:=@List.contains_iff_mem
def a6:type_of% @List.length_filter_le:=@List.length_filter_le
def Z5:type_of% @List.mem_or_eq_of_mem_set:=@List.mem_or_eq_of_mem_set
def Y5:type_of% @Nat.le_mul_of_pos_right:=@Nat.le_mul_of_pos_right
def X5:type_of% @Array.getElem?_eq_some_iff:=@Array.getElem?_eq_some_iff
def W5:type_of% @List.take_append_of_le_length:=@List.take_append_of_le_length
def V5:type_of% @Nat.pow_lt_pow_iff_right:=@Nat.pow_lt_pow_iff_right
def U5:type_of% @Int.fdiv_eq_ediv_of_nonneg:=@Int.fdiv_eq_ediv_of_nonneg
def T5:type_of% @Bool.and_eq_false_iff:=@Bool.and_eq_false_iff
def Z'{p:Prop}(h:p:=by omega):p:=h
def V'{p:Prop}(h:p:=by decide):p:=h
def U'{p:Prop}(h:p:=by kernel_rfl):p:=h
def kH{P Q:Prop}(p:P)(h:P->Q:=by intro kQ;exact dJ (jb rfl (kb (vs:=[_,_,_]) pa.out (I.wa (i:=0) (n:=3) rfl rfl) rfl) Ub) kQ):Q:=h p
def Vk{P Q:Prop}(p:P)(h:P->Q:=by intro kQ;exact kB (jb rfl (kb (vs:=[_,_]) pa.out (I.wa (i:=0) (n:=2) rfl rfl) rfl) (Dc (Sc rfl) Ub)) kQ):Q:=h p
def fS{P Q:Prop}(p:P)(h:P->Q:=by intro kQ;exact sv (Ua (vs:=[_,_,_,_]) pa.out rfl ((hr.ext I.below).recAt TR.len C) rfl) kQ):Q:=h p
def rZ{P Q:Prop}(p:P)(h:P->Q:=by intro kQ;exact ud (i:=9) rfl (λU Z hj hR=>(show U 27=Value.bool _ from hR.2.1)) (λU Z hj hR=>Ha fi (na (show U 29=Value.agg (List.toArray _) from hR.1) Oa)) (λZ hj=>z _) kQ):Q:=h p
def pI{P Q:Prop}(p:P)(h:P->Q:=by intro kQ;exact dJ (jb rfl (kb (vs:=[_,_]) pa.out (I.wa (i:=0) (n:=2) rfl rfl) rfl) Ub) kQ):Q:=h p
def Jw{P Q:Prop}(p:P)(h:P->Q:=by intro kQ;exact kB (jb rfl (kb (vs:=[_,_]) pa.out (I.wa (i:=2) (n:=2) rfl rfl) rfl) (Dc (Sc rfl) Ub)) kQ):Q:=h p
def Jy{P Q:Prop}(p:P)(h:P->Q:=by intro kQ;exact kB (jb rfl (kb (vs:=[_,_]) pa.out (I.wa (i:=1) (n:=2) rfl rfl) rfl) (Dc (Sc rfl) Ub)) kQ):Q:=h p
def LB{P Q:Prop}(p:P)(h:P->Q:=by intro kQ;exact vc I (cs:=[_,_,_,_]) Qa.out pa.out (Bb (Xe rfl) Ld) rfl rfl V' V' V' rfl V' kQ):Q:=h p
def Yl{P Q:Prop}(p:P)(h:P->Q:=by intro kQ;exact pb I (i:=1) rfl rfl rfl (I.ka (i:=0) rfl) Qa.out pa.out rfl V' (by first|rfl|exact kc _|exact Mb _|exact Ja _|exact Pa NR.one _) Z' Z' V' kQ):Q:=h p
def EF{P Q:Prop}(p:P)(h:P->Q:=by intro kQ;exact sv (Ma pa.out rfl (I.Pd (i:=0) rfl (by first|assumption|(simp only[W_];assumption)))) kQ):Q:=h p
def PF{P Q:Prop}(p:P)(h:P->Q:=by intro kQ;exact dJ (jb rfl (kb (vs:=[_,_]) pa.out (I.wa (i:=1) (n:=2) rfl rfl) rfl) Ub) kQ):Q:=h p
def ZV{P Q:Prop}(p:P)(h:P->Q:=by intro kQ;exact sv (Ua (vs:=[_,_,_,_]) pa.out rfl ((H.ext I.below).recAt TR.len C) rfl) kQ):Q:=h p
def oR{P Q:Prop}(p:P)(h:P->Q:=by intro kQ;exact sv (Ua (vs:=[_,_,_]) pa.out rfl ((H.ext I.below).recAt NR.len M) rfl) kQ):Q:=h p
def Nm{P Q:Prop}(p:P)(h:P->Q:=by intro kQ;exact vc I (cs:=[_,_,_]) Qa.out pa.out (Bb (Xe rfl) Ld) rfl rfl V' V' V' rfl V' kQ):Q:=h p
def EC{P Q:Prop}(p:P)(h:P->Q:=by intro kQ;exact pb I (i:=2) rfl rfl rfl (I.ka (i:=0) rfl) Qa.out pa.out rfl V' (by first|rfl|exact kc _|exact Mb _|exact Ja _|exact Pa NR.one _) Z' Z' V' kQ):Q:=h p
def vA{P Q:Prop}(p:P)(h:P->Q:=by intro kQ;exact sv (LA Qa.out Qa.out rfl (by first|assumption|omega)) kQ):Q:=h p
def nH{P Q:Prop}(p:P)(h:P->Q:=by intro kQ;exact sv (Ma pa.out rfl ((H.ext I.below).Dl (by assumption))) kQ):Q:=h p
def bT{P Q:Prop}(p:P)(h:P->Q:=by intro kQ;exact sv (tK (b:=1) rfl rfl (by first|assumption|omega) (by first|assumption|omega)) kQ):Q:=h p
def vT{P Q:Prop}(p:P)(h:P->Q:=by intro kQ;exact Lb I (i:=0) (vs:=[_]) rfl rfl (Ac rfl) rfl pa.out rfl (by rw[o];omega) rfl kQ):Q:=h p
def tT{P Q:Prop}(p:P)(h:P->Q:=by intro kQ;exact Lb I (i:=3) (vs:=[_,_,_]) rfl rfl (Xe rfl) rfl pa.out rfl Z' rfl kQ):Q:=h p
def SM{P Q:Prop}(p:P)(h:P->Q:=by intro kQ;exact Mh (E _ I.below) ma.out rfl rfl V' kQ):Q:=h p
def JI{P Q:Prop}(p:P)(h:P->Q:=by intro kQ;exact sv (pn rfl (na (sy rfl) Oa)) kQ):Q:=h p
def HC{P Q:Prop}(p:P)(h:P->Q:=by intro kQ;exact sv (Xp (s:=32) (m:=4294967296) rfl rfl V' V') kQ):Q:=h p
def qS{P Q:Prop}(p:P)(h:P->Q:=by intro kQ;exact sv (tK (b:=4294967295) rfl rfl (by first|assumption|omega) (by first|assumption|omega)) kQ):Q:=h p
def QR{P Q:Prop}(p:P)(h:P->Q:=by intro kQ;exact Mj 7 V' U' V' U' U' kQ):Q:=h p
def pD{P Q:Prop}(p:P)(h:P->Q:=by intro kQ;exact sv (Ma pa.out rfl (uH H (Db C) rfl)) kQ):Q:=h p
def cI{P Q:Prop}(p:P)(h:P->Q:=by intro kQ;exact sv (Ma pa.out rfl ((I.below.cell (cn hp)).trans hp)) kQ):Q:=h p
def aaj{P Q:Prop}(p:P)(h:P->Q:=by intro kQ;exact yF (i:=18) rfl (λU Z hj hR=>(show U 33=Value.bool _ from hR.2.2.1)) (λU Z hj hR=>PM (show U 36=Value.agg (List.toArray _) from hR.1) (show U 38=Value.agg (List.toArray _) from hR.2.1) (by first|assumption|rfl)) kQ):Q:=h p
def sM{P Q:Prop}(p:P)(h:P->Q:=by intro kQ;exact sv (Ma pa.out rfl ((s2.ext I.below).Dl (by assumption))) kQ):Q:=h p
def IF{P Q:Prop}(p:P)(h:P->Q:=by intro kQ;exact sv (Rs (b:=1) rfl rfl Z') kQ):Q:=h p
def bw{P Q:Prop}(p:P)(h:P->Q:=by intro kQ;exact vc I (cs:=[_,_,_,_,_,_]) Qa.out pa.out (Bb (Xe rfl) (Bb (Xe rfl) Ld)) rfl rfl V' V' V' rfl V' kQ):Q:=h p
def xR{P Q:Prop}(p:P)(h:P->Q:=by intro kQ;exact vc I (cs:=[_]) Qa.out pa.out (Bb rfl Ld) rfl rfl V' V' V' rfl V' kQ):Q:=h p
def xr{P Q:Prop}(p:P)(h:P->Q:=by intro kQ;exact vc I (cs:=[_]) Qa.out pa.out (Bb (Ac rfl) Ld) rfl rfl V' V' V' rfl V' kQ):Q:=h p
def fI{P Q:Prop}(p:P)(h:P->Q:=by intro kQ;exact Gd I (Nr _ _ _ _ _ _ (ya 18446744073709551616 (bN a)) (ya 18446744073709551616 (bN b)) _ (I.ka (i:=1) rfl) (I.ka (i:=0) rfl) (Ig _) (Ig _) (I.pf (i:=1) rfl) (I.pf (i:=0) rfl) Z' Z') rfl kQ):Q:=h p
def dN{P Q:Prop}(p:P)(h:P->Q:=by intro kQ;exact sv (wW Qa.out rfl rfl (by first|rfl|assumption|decide)) kQ):Q:=h p
def ym{P Q:Prop}(p:P)(h:P->Q:=by intro kQ;exact vc I (cs:=[_,_,_,_]) Qa.out pa.out (Bb (Xe rfl) (Bb (Xe rfl) Ld)) rfl rfl V' V' V' rfl V' kQ):Q:=h p
def ZL{P Q:Prop}(p:P)(h:P->Q:=by intro kQ;exact Ba (i:=3) (λU Z hj hR=>Cn (show U 20=Value.int _ _ from hR.1) Z' Z') kQ):Q:=h p
def HN{P Q:Prop}(p:P)(h:P->Q:=by intro kQ;exact ua (i:=9) (Sa _ 28 _) Sa.ext (λU Z hj hR=>Xc pa.out hj.bl (λv q h F=>⟨F,h⟩)) kQ):Q:=h p
def WT{P Q:Prop}(p:P)(h:P->Q:=by intro kQ;exact Ga (l:=[.agg #[ww true,wt a],wd (-(m:Int))]) func198 kQ):Q:=h p
def mV{P Q:Prop}(p:P)(h:P->Q:=by intro kQ;exact dC (λ_ hj=>Wd a _ (S.hp hj.hp) Z' Z' Z') kQ):Q:=h p
def GH{P Q:Prop}(p:P)(h:P->Q:=by intro kQ;exact Gd I (Ej A n c j xs _ (C.ext I.below) F Z' Z') rfl kQ):Q:=h p
def rG{P Q:Prop}(p:P)(h:P->Q:=by intro kQ;exact Gd I (Ej B m c' j ys _ (hy.ext I.below) S Z' Z') rfl kQ):Q:=h p
def ZB{P Q:Prop}(p:P)(h:P->Q:=by intro kQ;exact Jf (n:=n) I rfl rfl Z' Z' Qa.out pa.out rfl Z' Z' V' kQ):Q:=h p
def mR{P Q:Prop}(p:P)(h:P->Q:=by intro kQ;exact Gd I (kg _ _ _ (ya 2 (bN m)) _ (I.ka (i:=0) rfl) (lk _) (I.pf (i:=0) rfl) Z') rfl kQ):Q:=h p
def uM{P Q:Prop}(p:P)(h:P->Q:=by intro kQ;exact dC (λ_ hj=>ue a _ Z' Z' Z') kQ):Q:=h p
def rN{P Q:Prop}(p:P)(h:P->Q:=by intro kQ;exact Gd I (ue b _ Z' Z' Z') rfl kQ):Q:=h p
def SQ{P Q:Prop}(p:P)(h:P->Q:=by intro kQ;exact sv (Ua (vs:=[_,_,_,_]) pa.out rfl ((H.ext I.below).recAt TR.len s) rfl) kQ):Q:=h p
def gM{P Q:Prop}(p:P)(h:P->Q:=by intro kQ;exact Mj 8 V' U' V' U' U' kQ):Q:=h p
def EU{P Q:Prop}(p:P)(h:P->Q:=by intro kQ;exact sv (Ua (vs:=[_,_,_,_]) pa.out rfl ((G.ext I.below).recAt TR.len P) rfl) kQ):Q:=h p
def du{P Q:Prop}(p:P)(h:P->Q:=by intro kQ;exact AA I Qa.out pa.out V' kQ):Q:=h p
def aD{P Q:Prop}(p:P)(h:P->Q:=by intro kQ;exact sv (Ma pa.out rfl (I.Pd (i:=1) rfl (by first|assumption|(simp only[W_];assumption)))) kQ):Q:=h p
def cO{P Q:Prop}(p:P)(h:P->Q:=by intro kQ;exact Lb I (i:=1) (vs:=[_]) rfl rfl (Ac rfl) rfl pa.out rfl Z' rfl kQ):Q:=h p
def DL{P Q:Prop}(p:P)(h:P->Q:=by intro kQ;exact Gd I (Sm 1 _ (S.hp I) Z' Z') rfl kQ):Q:=h p
def aav{P Q:Prop}(p:P)(h:P->Q:=by intro kQ;exact pb I (i:=5) rfl rfl rfl (I.ka (i:=0) rfl) Qa.out pa.out rfl V' (by first|rfl|exact kc _|exact Mb _|exact Ja _|exact Pa NR.one _) Z' Z' V' kQ):Q:=h p
def OV{P Q:Prop}(p:P)(h:P->Q:=by intro kQ;exact dJ (jb rfl (kb (vs:=[_,_]) pa.out (I.wa (i:=2) (n:=2) rfl rfl) rfl) Ub) kQ):Q:=h p
def aaT{P Q:Prop}(p:P)(h:P->Q:=by intro kQ;exact wh [2] [0,1,0,3,15,31] 3 [[(4,none)],[(48,some 0)],[(5,none)]] [(2,50),(1,49),(0,48)] [([],3,[(1,49),(0,48)]),([2],2,[(2,50),(1,49),(0,48)])] I mixed U' U' V' kQ):Q:=h p
def fU{P Q:Prop}(p:P)(h:P->Q:=by intro kQ;exact kB (jb rfl (kb (vs:=[_,_]) pa.out (I.wa (i:=5) (n:=2) rfl rfl) rfl) (Dc (Sc rfl) Ub)) kQ):Q:=h p
def SN{P Q:Prop}(p:P)(h:P->Q:=by intro kQ;exact vc I (cs:=[_,_]) Qa.out pa.out (Bb (Xe rfl) Ld) rfl rfl V' V' V' rfl V' kQ):Q:=h p
def nV{P Q:Prop}(p:P)(h:P->Q:=by intro kQ;exact Ba (i:=3) (λU Z hj hR=>Ma pa.out (show U 39=Value.pointer _ from hR.1) (hj.hp.Dd (i:=1) rfl (by first|assumption|(simp only[W_];assumption)))) kQ):Q:=h p
def AU{P Q:Prop}(p:P)(h:P->Q:=by intro kQ;exact Ba (i:=4) (λU Z hj hR=>jh Qa.out Qa.out (show U 40=Value.int _ _ from hR.1) Z' Z') kQ):Q:=h p
def JR{P Q:Prop}(p:P)(h:P->Q:=by intro kQ;exact Ba (i:=9) (λU Z hj hR=>Ma pa.out (show U 45=Value.pointer _ from hR.1) ((s1.ext hj.hp.below).Dl (by assumption))) kQ):Q:=h p
def TH{P Q:Prop}(p:P)(h:P->Q:=by intro kQ;exact sv (Ma pa.out rfl (I.Dd (i:=1) rfl (by first|assumption|(simp only[W_];assumption)))) kQ):Q:=h p
def MH{P Q:Prop}(p:P)(h:P->Q:=by intro kQ;exact pb I (i:=3) rfl rfl rfl (I.ka (i:=0) rfl) Qa.out pa.out rfl V' (by first|rfl|exact kc _|exact Mb _|exact Ja _|exact Pa NR.one _) Z' Z' V' kQ):Q:=h p
def yC{P Q:Prop}(p:P)(h:P->Q:=by intro kQ;exact vc I (cs:=[_,_,_,_,_,_]) Qa.out pa.out (Bb (Xe rfl) Ld) rfl rfl V' V' V' rfl V' kQ):Q:=h p
def pR{P Q:Prop}(p:P)(h:P->Q:=by intro kQ;exact YH (jb rfl (kb (vs:=[_,_]) pa.out (I.wa (i:=1) (n:=2) rfl rfl) rfl) (jb rfl (kb (vs:=[_,_]) pa.out (I.wa (i:=0) (n:=2) rfl rfl) rfl) (Dc (Sc rfl) Ub))) kQ):Q:=h p
def DH{P Q:Prop}(p:P)(h:P->Q:=by intro kQ;exact sv (Ma pa.out rfl ((H.ext I.below).Dl a)) kQ):Q:=h p
def T2{P Q:Prop}(p:P)(h:P->Q:=by intro kQ;exact pb I (i:=0) rfl rfl rfl (f69) Qa.out pa.out rfl V' (by first|rfl|exact kc _|exact Mb _|exact Ja _|exact Pa NR.one _) Z' Z' V' kQ):Q:=h p
def zR{P Q:Prop}(p:P)(h:P->Q:=by intro kQ;exact pb I (i:=4) rfl rfl rfl (I.ka (i:=0) rfl) Qa.out pa.out rfl V' (by first|rfl|exact kc _|exact Mb _|exact Ja _|exact Pa NR.one _) Z' Z' V' kQ):Q:=h p
def VS{P Q:Prop}(p:P)(h:P->Q:=by intro kQ;exact vc I (cs:=[_,_,_,_,_,_,_,_,_,_,_,_]) Qa.out pa.out (Bb (Xe rfl) (Bb (Xe rfl) Ld)) rfl rfl V' V' V' rfl V' kQ):Q:=h p
def wz{P Q:Prop}(p:P)(h:P->Q:=by intro kQ;exact Bk (ia (cF (db (Va (sr kQ)))))):Q:=h p
def RR{P Q:Prop}(p:P)(h:P->Q:=by intro kQ;exact Ba (i:=2) (λU Z hj hR=>Vb Qa.out pa.size (show U 59=Value.slice _ _ _ from hR.1) (show U 60=Value.int _ _ from hR.2.1) Z' Z') kQ):Q:=h p
def wR{P Q:Prop}(p:P)(h:P->Q:=by intro kQ;exact Ba (i:=7) (λU Z hj hR=>Ma pa.out (show U 65=Value.pointer _ from hR.1) (GX (hj.hp.ka (i:=2) rfl) Z' hx2)) kQ):Q:=h p
def L0{P Q:Prop}(p:P)(h:P->Q:=by intro kQ;exact YH (jb rfl (kb (vs:=[_,_,_,_,_,_,_,_]) pa.out (I.wa (i:=8) (n:=8) rfl rfl) rfl) (Dc (Sc rfl) (Dc (Sc rfl) Ub))) kQ):Q:=h p
def BV{P Q:Prop}(p:P)(h:P->Q:=by intro kQ;exact ua (i:=9) (Sa _ 40 _) Sa.ext (λU Z hj hR=>Xc pa.out hj.bl (λv w2 h F=>⟨F,h⟩)) kQ):Q:=h p
def uR{p:Prop}(h:p:=by
  refine Ga func180 ?_;refine acr ?_;intro D y I ws I;exact dZ):p:=h
def U1{p:Prop}(h:p:=by
  refine Jw ?_;exact Fu):p:=h
def S2{p:Prop}(h:p:=by
  refine Bd ?_;refine Oe (i:=4) U' rfl ?_;refine sv (Kc (k:=1) Qa.out pa.size rfl rfl Z' Z') ?_;exact D0):p:=h
def aar{p:Prop}(h:p:=by
  refine ea ?_;refine IF ?_;refine ea ?_;refine sv (zg rfl rfl) ?_;refine ea ?_;rw[S,p];refine⟨⟨rfl,I⟩, ?_⟩;exact Sb):p:=h
def F2{p:Prop}(h:p:=by
  refine Bd ?_;refine Oe (i:=2) U' rfl ?_;refine pd I 3 [_,_] ?_;intro ws I;replace I:Hp _ (_::_::_::.blk _ _ [_,_] _::_) _:=I;exact BZ):p:=h
def Y0{p:Prop}(h:p:=by
  refine WV ?_;refine xa ?_;intro f W Q g;have R:=Q.bl;obtain⟨p,Y,X,M,A,K,r,m,_⟩:=g;replace I:=Q.hp;refine Be ?_;clear Q;refine ea ?_;refine cd I (t _) ?_;intro q I;exact aaI):p:=h
def aba{p:Prop}(h:p:=by
  rw[Q' J] at o;refine ea ?_;refine qh 8 I ?_;refine ub ?_;refine xa ?_;intro f W Q g;have R:=Q.bl;obtain⟨p,Y,X,M,A,K,r,m,_⟩:=g;replace I:=Q.hp;refine Be ?_;clear Q;exact aaI):p:=h
def I1{p:Prop}(h:p:=by
  refine ea ?_;refine IF ?_;refine ea ?_;refine sv (zg rfl rfl) ?_;refine ea ?_;rw[S,f];refine⟨⟨q-1,d+j,rfl,rfl,x,T,I⟩,by show((q-1:Nat):Int).toNat<(q:Int).toNat;omega, ?_⟩;exact Sb):p:=h
def OZ{p:Prop}(h:p:=by
  exact⟨_,_,by rw[b],by rw[b,L];exact I.sub (P' _ (N_ _))⟩):p:=h
def O1{p:Prop}(h:p:=by
  refine⟨⟨j+1,Z',rfl,I⟩,by show d-i+1-(j+1)<d-i+1-j;omega, ?_⟩;exact Sb):p:=h
def A0{p:Prop}(h:p:=by
  refine⟨⟨i+1,Z',rfl, ?_,I⟩,by show n-(i+1)<n-i;omega, ?_⟩
  .exact agh
  exact Sb):p:=h
def QT{p:Prop}(h:p:=by
  refine EZ ?_;intro D B I E I;refine gJ ?_;intro ws I;exact dZ):p:=h
theorem a0{p:Prop}(h:p:=by
  intro k
  induction k with
  |zero=>rintro ⟨i,h,_⟩;omega
  |succ k ihk=>
   refine Q0 ?_;(unhygienic intros)
   exact abS):p:=h
theorem mM{p:Prop}(h:p:=by
  (unhygienic intros)
  refine agy ?_;intro I;exact Sb):p:=h
def j3{p:Prop}(h:p:=by
  refine Ga func97 ?_;refine Ib ?_;intro C w2 I D w4 I;refine cd I (K _ (H.hp I) I.below) ?_;intro t I;refine Gb ?_;exact ac0):p:=h
def fR{p:Prop}(h:p:=by
  rw[K9,Array.getElem?_replicate];split<;>rfl):p:=h
def aaK{p:Prop}(h:p:=by
  refine Gb ?_;intro ws I;refine dJ (jb rfl (kb (vs:=[_,_,_]) pa.out (I.wa (i:=1) (n:=3) rfl rfl) rfl) Ub) ?_;exact lX):p:=h
def aaS{p:Prop}(h:p:=by
  refine⟨⟨i,_,_,Z',rfl,by rw[d1];rfl,by rw[d1];exact I⟩,by show((i:Int)-1+1).toNat<((i:Int)+1).toNat;omega, ?_⟩;exact Sb):p:=h
def R1{p:Prop}(h:p:=by
  rw[hu];refine Gb ?_;intro ws I;refine PF ?_;exact lX):p:=h
def aa3{p:Prop}(h:p:=by
  obtain⟨rfl,rfl⟩:=heq S;rw[hX0.2 S] at P;refine cd I (hsh _) ?_;intro w25 I;refine Gb ?_;intro ws I;refine cd I (P _) ?_;intro w32 I;refine Gb ?_;intro ws I;exact zW2):p:=h
def lZ{p:Prop}(h:p:=by
  refine Ii ?_;intro ws I ws I ws I;refine dJ (jb rfl (kb (vs:=[_,_,_,_,_]) pa.out (I.wa (i:=1) (n:=5) rfl rfl) rfl) Ub) ?_;exact⟨rfl,I.below⟩):p:=h
def aaB{p:Prop}(h:p:=by
  refine Bd ?_;refine Oe (i:=2) U' rfl ?_;refine pd I 4 [_,_] ?_;intro ws I;replace I:Hp _ (_::_::_::_::.blk _ _ [_,_] _::_) _:=I;exact ael):p:=h
def RU{p:Prop}(h:p:=by
  refine rn8 ?_;intro I;refine aL (ia (mb (mI ?_)));refine afe ?_;intro I;exact Sb):p:=h
def SS{p:Prop}(h:p:=by
  simp only[l'] at I;rw[i'] at I |-;rw[J'] at I;exact cz):p:=h
def W1{p:Prop}(h:p:=by
  rw[hmx,ek _ (by rw[<-Hb];omega),MU E hxa hyb] at I;refine ea ?_;refine⟨⟨j+1,Z',rfl,I⟩,by show f0.n-(j+1)<f0.n-j;omega, ?_⟩;exact Sb):p:=h
def aam{p:Prop}(h:p:=by
  first|refine lB ?_|refine VC ?_
  refine ia (cT (sr ?_));refine cd I (zt _ (S.hp I)) ?_;intro w34 I;refine aB (ia (je (Ad ?_)));refine qa1 ?_;exact⟨rfl,I.below⟩):p:=h
def G0{p:Prop}(h:p:=by
  refine Gb ?_;intro ws I;refine YH (jb rfl (kb (vs:=[_,_,_,_,_,_,_,_]) pa.out (I.wa (i:=2) (n:=8) rfl rfl) rfl) (Dc (Sc rfl) (Dc (Sc rfl) Ub))) ?_;exact yQ):p:=h
def u1{p:Prop}(h:p:=by
  rw[show mm v x=1 by unfold mm;rw[Q' (.inl (by cases Y:gh v with|false=>rfl|true=>have:=Yc.1 Y;omega))]];exact uR):p:=h
def abb{p:Prop}(h:p:=by
  rw[o];refine Gb ?_;intro ws I;refine dJ (jb rfl (kb (vs:=[_,_,_,_,_,_]) pa.out (I.wa (i:=3) (n:=6) rfl rfl) rfl) Ub) ?_;exact⟨by rw[Q' rfl,Int.add_zero];rfl,I.below⟩):p:=h
def oZ{p:Prop}(h:p:=by
  refine QZ ?_;intro R b I ws I Y I;generalize a.i.sign=g at*;refine ea ?_;refine⟨⟨i+1,g,Z',rfl,rfl,e,Z',Z',I.sub (N_ _)⟩,by show n-(i+1)<n-i;omega, ?_⟩;exact Sb):p:=h
def aap{p:Prop}(h:p:=by
  refine cd I (s _) ?_;intro w75 I;refine Ib ?_;intro ws I ws I;refine dJ (jb rfl (kb (vs:=[_,_,_,_,_,_]) pa.out (I.wa (i:=3) (n:=6) rfl rfl) rfl) Ub) ?_;exact⟨by rw[R' o];rfl,I.below⟩):p:=h
theorem T1{p:Prop}(h:p:=by
  refine Bd ?_;refine Oe (i:=8) U' rfl ?_;refine Mh (h _ (hT.hp I)) fi rfl rfl V' ?_;rintro t w41 ⟨rfl,M⟩;refine⟨_,rfl, ?_⟩;replace I:=I.ext M;refine afJ ?_;(unhygienic intros)
  exact Sb):p:=h
def kZ{p:Prop}(h:p:=by
  refine⟨⟨j+1,N++[yp x y],_,_,Z',rfl,by rw[D'];rfl,by rw[hN,ja hy,q_,J_];rfl,λe h=> ?_, ?_⟩,by show J-(j+1)<J-j;omega, ?_⟩
  .exact adw
  .rw[D'];exact I
  exact Sb):p:=h
def aa4{p:Prop}(h:p:=by
  refine Ga func129 ?_;refine Ib ?_;intro T x I D y I;refine cd I (u _) ?_;intro B I;refine ea ?_;refine JI ?_;refine ea ?_;refine cd I (E _ _ I.below (I.Dd (i:=1) (o:=0) rfl rfl)) ?_;intro d I;refine Gb ?_;intro ws I;exact M0):p:=h
def V2{p:Prop}(h:p:=by
  refine Vg (C _ (S.hp I) I.below) ?_;rintro e_ w51 ⟨g,og,rfl,h3⟩;refine⟨_,rfl, ?_⟩;replace I:=I.join h3;simp only[I',J'] at I;refine Gb ?_;intro ws I;exact U1):p:=h
def lV{p:Prop}(h:p:=by
  refine YH (jb rfl (kb (vs:=[_,_,_,_,_,_,_,_]) pa.out (I.wa (i:=1) (n:=8) rfl rfl) rfl) (Dc (Sc rfl) (Dc (Sc rfl) Ub))) ?_;exact yQ):p:=h
def nZ{p:Prop}(h:p:=by
  have R:q<4294967296:=Z';have p:=tC g b0 o Z';rw[<-P] at p;have t:=t R;refine ea ?_;refine sv (Fh rfl rfl) ?_;refine ea ?_;refine sv (Fh (a:=4294967296) rfl rfl) ?_;refine ea ?_;refine sv (zg rfl rfl) ?_;refine ea ?_;refine⟨⟨C_ (λn:Nat=>Value.int IntKind.u64 n) p,I⟩, ?_⟩;exact Sb):p:=h
def kS{p:Prop}(h:p:=by
  refine⟨⟨i+1,Z',rfl,by rw[ja C,S8,X,Q8,M8,m' Z'];rfl,I⟩,by show n-(i+1)<n-i;omega, ?_⟩;exact Sb):p:=h
def aC{p:Prop}(h:p:=by
  refine⟨⟨i+1,Z',rfl,I⟩,by show n-(i+1)<n-i;omega, ?_⟩;exact Sb):p:=h
def JZ{p:Prop}(h:p:=by
  refine pd I 7 [_,_,_,_,_,_,_,_] ?_;intro ws I;replace I:Hp _ (_::_::_::_::_::_::_::.blk _ _ [_,_,_,_,_,_,_,_] _::_) _:=I;refine aI (aI (ia (je (Ad ?_))));refine YH (jb rfl (kb (vs:=[_,_,_,_,_,_,_,_]) pa.out (I.wa (i:=7) (n:=8) rfl rfl) rfl) (Dc (Sc rfl) (Dc (Sc rfl) Ub))) ?_;exact yQ):p:=h
def aas{p:Prop}(h:p:=by
  refine Bd ?_;refine Mj 4 V' U' V' U' U' ?_;refine Gb ?_;intro ws I;refine YH (jb rfl (kb (vs:=[_,_]) pa.out (I.wa (i:=1) (n:=2) rfl rfl) rfl) (jb rfl (kb (vs:=[_,_]) pa.out (I.wa (i:=0) (n:=2) rfl rfl) rfl) (Dc (cm rfl) Ub))) ?_;exact⟨_,_,rfl,I.below⟩):p:=h
def aaX{p:Prop}(h:p:=by
  refine sr (Sk ?_);refine im I 1 ?_;refine Df ?_;refine zl (mB ?_);first|refine gS ?_|(refine gT ?_;refine mL ?_)|refine gV ?_
  first|refine gS ?_|(refine gT ?_;refine Df ?_)|refine gV ?_
  first|refine gS ?_|(refine gT ?_;refine zl ?_)|refine gV ?_
  first|refine lB ?_|refine VC ?_
  refine ia (cF (db (Va ?_)));refine⟨I, ?_⟩;exact bL):p:=h
def O0{p:Prop}(h:p:=by
  unfold SR.f;rw[N,a];refine Ga func112 ?_;refine Ib ?_;intro G Z I T q I;refine cd I (E _) ?_;intro e I;refine ea ?_;refine qh 5 I ?_;refine ub ?_;refine dC (λ_ hj=>j _) ?_;refine ub ?_;refine xa ?_;intro f W Q b;have F:=Q.bl;obtain⟨p,Y,X,c,A,_⟩:=b;replace I:=Q.hp;refine Be ?_;clear Q;refine cd I (t _) ?_;intro g I;refine Gb ?_;intro ws I;exact rW):p:=h
def D0{p:Prop}(h:p:=by
  refine Bd ?_;refine Oe (i:=5) U' rfl ?_;refine sv (Ua (vs:=[_,_]) pa.out rfl (I.Wc (f:=FX.cells) (x:=y) (l:=[x,y]) (i:=0) rfl FX.len V' K) rfl) ?_;exact zW7):p:=h
def X1{p:Prop}(h:p:=by
  simp only[I',J'] at I;refine sc (i:=7) (by repeat (first|exact Nc|refine Rb ?_|refine Mc ?_|refine np_scope ?_)) rfl U' U' U' (λ_=>bc (show _=Value.tuple (List.toArray _) from rfl) rfl) V' ?_;refine sc (i:=8) (by repeat (first|exact Nc|refine Rb ?_|refine Mc ?_|refine np_scope ?_)) rfl U' U' U' (λ_=>bc (show _=Value.tuple (List.toArray _) from rfl) rfl) V' ?_;refine Mj 9 V' U' V' U' U' ?_;refine rS ?_;intro ws I;exact Fu):p:=h
def y3{p:Prop}(h:p:=by
  simp only[I',J'] at I;refine sc (i:=8) (by repeat (first|exact Nc|refine Rb ?_|refine Mc ?_|refine np_scope ?_)) rfl U' U' U' (λ_=>bc (show _=Value.tuple (List.toArray _) from rfl) rfl) V' ?_;refine sc (i:=9) (by repeat (first|exact Nc|refine Rb ?_|refine Mc ?_|refine np_scope ?_)) rfl U' U' U' (λ_=>bc (show _=Value.tuple (List.toArray _) from rfl) rfl) V' ?_;refine Mj 10 V' U' V' U' U' ?_;refine GU ?_;intro ws I;exact Fu):p:=h
def aaI{p:Prop}(h:p:=by
  refine ea ?_;refine sv (Ua (vs:=[_,_,_]) pa.out rfl ((H.ext I.below).recAt NR.len C) rfl) ?_;refine Gd I (ue x _ Z' Z' Z') rfl ?_;intro G I;refine Gb ?_;intro ws I;refine⟨⟨i+1,_,Z',rfl,o.symm,v,I⟩,by show n-(i+1)<n-i;omega, ?_⟩;exact Sb):p:=h
def BZ{p:Prop}(h:p:=by
  refine Bd ?_;refine Mj 3 V' U' V' U' U' ?_;refine pd I 2 [_,_] ?_;intro ws I;replace I:Hp _ (_::_::.blk _ _ [_,_] _::_) _:=I;refine aB (ia (je ?_));refine YH (jb rfl (kb (vs:=[_,_]) pa.out (I.wa (i:=3) (n:=2) rfl rfl) rfl) (jb rfl (kb (vs:=[_,_]) pa.out (I.wa (i:=2) (n:=2) rfl rfl) rfl) (Dc (cm rfl) Ub))) ?_;exact⟨rfl,I.below⟩):p:=h
def G2{p:Prop}(h:p:=by
  refine cd I (g _) ?_;intro w78 I;refine Gb ?_;intro ws I;refine Nm ?_;intro b82 w82 I;refine MH ?_;intro G q w83 I;simp only[l',Z9] at I;replace I:=I.sub (d_ _ _);refine Gb ?_;intro ws I;replace I:=I.sub (L' _ (L' _ (P' _ (P' _ (P' _ (P' _ (P' _ (P' _ j'))))))));refine⟨⟨p+1,q,G,Z',rfl, ?_⟩,by show da (Zd ns a)-(p+1)<da (Zd ns a)-p;omega, ?_⟩
  .rw[ja P,q_,Na];exact I
  exact Sb):p:=h
def aag{p:Prop}(h:p:=by
  obtain⟨N,x⟩:=zO g Z' Z' o F;have S:(q+18446744073709551616-1) % 18446744073709551616=q-1:=Z';have f:(d+j) % 18446744073709551616=d+j:=Z';by_cases G:4294967296<=d+j
  .have p:=xJ g b0 x Z' G;rw[<-P] at p;by_cases R:4294967296<=q
   .exact aar
   have t:=t Z';refine ea ?_;refine sv (Fh rfl rfl) ?_;refine ea ?_;refine sv (Fh (a:=4294967296) rfl rfl) ?_;refine ea ?_;refine sv (zg rfl rfl) ?_;exact aar
  have T:d+j<4294967296:=Z';by_cases R:4294967296<=q
  .exact I1
  have t:=t Z';refine ea ?_;refine sv (Fh rfl rfl) ?_;refine ea ?_;refine sv (Fh (a:=4294967296) rfl rfl) ?_;refine ea ?_;refine sv (zg rfl rfl) ?_;exact I1):p:=h
def aao{p:Prop}(h:p:=by
  intro w119 I;refine pd I 11 [_,_,_,_,_,_] ?_;intro ws I;replace I:Hp _ (_::_::_::_::_::_::_::_::_::_::_::.blk _ _ [_,_,_,_,_,_] _::_) _:=I;refine ia (sr (mI ?_));refine al (aI (ia (qa (sr (mL (Df ?_))))));refine zl (ia ?_);rw[he1] at I |-
  cases st with
  |nil=>
   exact agt
  |cons d2 st=>
   rw[R' (by simp)] at C
   cases xs with
   |nil=>exact absurd J.symm (by simp)
   |cons x2 xs=>
    rw[T_,T_,U6] at J;refine cF (db (Va (Oh (Mf (gk (Va (mb (mI ?_))))))));refine al (aI (Ti (Va ?_)));replace I:=I.perm (U_ (l₁:=[_,_,_,_,_,_,_,_,_,_,_,_,_,_]));simp only[I',J'] at I;replace I:=I.perm (U_ (l₁:=[_,_,_,_,_,_,_,_,_,_,_,_,_,_]));simp only[I',J'] at I;replace I:=I.perm (U_ (l₁:=[_,_,_,_,_,_,_,_,_,_,_,_,_,_]));simp only[I',J'] at I;replace I:=I.perm (U_ (l₁:=[_,_,_,_,_,_,_,_,_,_,_,_,_,_]));simp only[I',J'] at I;replace I:=I.perm (U_ (l₁:=[_,_,_,_,_,_,_,_,_,_,_,_,_,_]));simp only[I',J'] at I;replace I:=I.perm (U_ (l₁:=[_,_,_,_,_,_,_,_,_,_,_,_,_,_]));simp only[I',J'] at I;replace I:=I.perm (U_ (l₁:=[_,_,_,_,_,_,_,_,_,_,_,_,_,_]));simp only[I',J'] at I
    replace I:=I.perm (U_ (l₁:=[_,_,_,_,_,_,_,_,_,_,_,_,_]));simp only[I',J'] at I;replace I:=I.sub (P' _ (P' _ (P' _ (P' _ (P' _ (P' _ (P' _ (P' _ (L' _ (L' _ (L' _ (L' _ (L' _ (L' _ (L' _ (u_ _))))))))))))))));refine⟨⟨i+1,fu,x2,xs,d2,st,_,A89,_,c89,f1,g1,_,Rw,rfl,by rw[hln];rfl,rfl,(i' _).symm,J.1,J.2,C,λz hz=>let⟨z1,z2⟩:=hG z (u' _ hz);⟨z1.mono Z',z2⟩,λy hy=>P y (u' _ hy),M,hlo,λ_=>rfl,by rw[hln];omega,Z', ?_,I⟩, ?_, ?_⟩
    .show 0+(xs.length+1)<=_;have:(x2::xs).length=xs.length+1:=rfl;omega
    .exact yY
    exact Sb):p:=h
def wZ{p:Prop}(h:p:=by
  refine⟨by grind,λx C=> ?_⟩;obtain rfl|C:=y'.1 C
  .grind
  exact h2 x C):p:=h
def N1{p:Prop}(h:p:=by
  refine KS ?_;intro W T I;refine⟨?_,I.below⟩;rw[R'];rintro (h|h)
  .omega
  cases h):p:=h
def abd{p:Prop}(h:p:=by
  obtain rfl|C:=y'.1 C
  .exact M
  obtain rfl:=k'.1 C;exact v):p:=h
def YR{p:Prop}(h:p:=by
  have:=g.vs p.1 p.2 h1 (X _ h1) h2;rw[h2];exact this):p:=h
def aaG{p:Prop}(h:p:=by
  rw[<-t,D',q',T9 Z'];exact⟨rfl,I.below⟩):p:=h
def aa7{p:Prop}(h:p:=by
  rw[R9 Z',Q,t_,U8,N9,C]):p:=h
def W2{p:Prop}(h:p:=by
  exact C_ (Value.int IntKind.i64) (show(n:Int)-1=(n:Int)-1-(0:Nat) by omega)):p:=h
def JU{p:Prop}(h:p:=by
  refine ea ?_;exact⟨by rw[w' s],I.below⟩):p:=h
def xV{p:Prop}(h:p:=by
  intro z I;refine ZD ?_;intro ws I;exact⟨rfl,I.below⟩):p:=h
def uU{p:Prop}(h:p:=by
  intro v I;refine ZD ?_;intro ws I;exact⟨rfl,I.below⟩):p:=h
def KZ{p:Prop}(h:p:=by
  exact k1 x (by simp only[y',i_,or_false] at C |-;exact .inr (.inr C))):p:=h
def J1{p:Prop}(h:p:=by
  have h1:bN m≠0:=λh=>J (by rw[h,pk]);rw[w' h1];exact⟨rfl,I.below⟩):p:=h
def PR{p:Prop}(h:p:=by
  refine PZ ?_;intro j B I W I D I;exact⟨rfl,I.below⟩):p:=h
def aa0{p:Prop}(h:p:=by
  rw[X_ (by rw[g8];omega),X_ Z'];rfl):p:=h
def G1{p:Prop}(h:p:=by
  obtain h|h:=z_ j ls.length
  .exact h
  rw[T8 h] at hq;cases hq):p:=h
def aad{p:Prop}(h:p:=by
  obtain⟨h|h,hb2⟩|h:=h
  .exact absurd (Ij f M) h.1
  .exact⟨h.2.2,hb2⟩
  exact nomatch h.2.1):p:=h
def yU{p:Prop}(h:p:=by
  exact⟨0,0,N' _,rfl,rfl,rfl,Nat.one_pos,I⟩):p:=h
def UZ{p:Prop}(h:p:=by
  have:=C_ List.length hq;rw[Q9] at this;simp only[G7] at this;omega):p:=h
def HZ{p:Prop}(h:p:=by
  unfold Pj;split
  .rename_i hpe;have:=Yc.1 (Kb hpe).1;rw[zf];omega
  exact N' _):p:=h
def NZ{p:Prop}(h:p:=by
  refine Gb ?_;refine qX ?_;intro ws I;exact⟨PX.nil,se.err he0,rfl,(I.sub (N_ _)).Qw⟩):p:=h
def mU{p:Prop}(h:p:=by
  refine Ga func128 ?_;refine ea ?_;exact⟨rfl,I.below⟩):p:=h
def aaV{p:Prop}(h:p:=by
  refine ea ?_;rw[Nat.sub_eq_zero_of_le Z',m' Z',pk];exact⟨rfl,I.below⟩):p:=h
def K2{p:Prop}(h:p:=by
  have:=hp t (Pg t S) (i+1) (by rw[V_];omega);rwa[show j+1+i=j+(i+1) by omega]):p:=h
def O2{p:Prop}(h:p:=by
  have h1:bN m=0:=by rw[<-pk] at J;exact MK J
  rw[m' Z'];exact⟨rfl,I.below⟩):p:=h
def C0{p:Prop}(h:p:=by
  induction xs generalizing ys c with
  |nil=>exact Dg.nil
  |cons x xs W=>exact Dg.cons (R_ _ E) (W _ _)):p:=h
def K0{p:Prop}(h:p:=by
  exact⟨0,0,none,[],[],N' _,rfl,rfl,rfl,⟨λj g o _ h=>(nomatch h),λo h=>(nomatch h)⟩,I⟩):p:=h
def MZ{p:Prop}(h:p:=by
  cases p with
  |nil=>show Sz k (nR 0).fa;rw[Ta];exact Sz.zero k
  |cons t p=>exact(y t E').2):p:=h
def qR{p:Prop}(h:p:=by
  refine ea ?_;exact⟨by rw[m' Z'],I.below⟩):p:=h
def aai{p:Prop}(h:p:=by
  rw[t_,E6,I_] at I;refine ea ?_;exact⟨_,rfl,I.at_ (i:=0) rfl,I.below⟩):p:=h
def aa1{p:Prop}(h:p:=by
  unfold Qt;rw[G' (by rw[Ep E];omega),T8 Z',I_]):p:=h
def M1{p:Prop}(h:p:=by
  refine Ga func83 ?_;refine Gb ?_;intro b1 Z I;refine cd I (u _) ?_;intro w7 I;refine ea ?_;exact⟨rfl,I.below⟩):p:=h
def C3{p:Prop}(h:p:=by
  rw[show(18446744073709551616:Nat)=2^64 from rfl,<-W9];exact K_ Z' Z'):p:=h
def eV{p:Prop}(h:p:=by
  refine ea ?_;exact⟨_,_,rfl,World.ownsRow_nil _ _ _ _,I.below⟩):p:=h
def CM{p:Prop}(h:p:=by
  rw[T] at h1;rw[T];exact⟨_,_,rfl,h1,I.below⟩):p:=h
def I2{p:Prop}(h:p:=by
  have:=BA n zc;rw[f] at this;unfold madeCells;rw[r];have a:zc.toArray.size=sz:=by simpa using f
  rw[a,this]):p:=h
def aak{p:Prop}(h:p:=by
  exact C_ (Value.int IntKind.i64) (show(n:Int)-1-(k:Int)-1=(n:Int)-1-((k+1:Nat):Int) by omega)):p:=h
def aat{p:Prop}(h:p:=by
  refine yT ?_;intro h1 h2;have G:i<L.size:=by rw[g.ls,hnn];exact hi
  have:=h2 L[i] (by simp);simpa[G] using this):p:=h
def aa9{p:Prop}(h:p:=by
  obtain⟨g,s,rfl⟩:=x'.1 hr;have:=hls g (j6 (by rw[hqs];exact s));exact⟨this.1,this.2.2.2⟩):p:=h
def qZ{p:Prop}(h:p:=by
  rw[G a E',Q' (λs K=>by
   obtain⟨c,E,rfl⟩:=x'.1 K;exact G c (u' _ E))]):p:=h
def aaW{p:Prop}(h:p:=by
  refine ea ?_;refine sv (Pe Qa.out Qa.out Qa.out rfl (I.ka (i:=0) rfl)) ?_;refine ea ?_;exact⟨rfl,I.below⟩):p:=h
def aaZ{p:Prop}(h:p:=by
  unfold xm;rw[s,R' V'];generalize ((2^L.n:Nat):Int)=h at*;refine aeA ?_;intro ws I;exact⟨rfl,I.below⟩):p:=h
def sS{p:Prop}(h:p:=by
  rw[X_ Z',X_ Z']):p:=h
def OL{p:Prop}(h:p:=by
  induction n with
  |zero=>grind
  |succ n W=>grind):p:=h
def adw{p:Prop}(h:p:=by
  rw[ja hy,q_,A_] at h;obtain h|h:=h
  .exact b e h
  rw[k'.1 h];exact he):p:=h
def D2{p:Prop}(h:p:=by
  refine Ib ?_;intro T q I j p I;refine cd I (Xn a b _ (S.hp I) M F) ?_;intro c I;refine ea ?_;rw[N];exact⟨rfl,I.below⟩):p:=h
def aac{p:Prop}(h:p:=by
  refine F0 ?_;intro s hs;rw[(Oj _ ds s hnd).2 λi hi=>hs ⟨i,hi⟩];exact g.nx s λi hi _ hd=>hs ⟨i,n i s hi hd⟩):p:=h
def mX{p:Prop}(h:p:=by
  rw[N];refine Su ?_;intro ws I;exact⟨rfl,I.below⟩):p:=h
def acQ{p:Prop}(h:p:=by
  refine Ga func100 ?_;refine Gb ?_;intro b1 Z I;exact⟨rfl,I.below⟩):p:=h
def aeg{p:Prop}(h:p:=by
  exact let⟨g,e,o⟩:=hR.1;ic rfl (Pe (l:=List.replicate v.toNat 0) Qa.out Qa.out Qa.out e o) ⟨Below.refl _ _,rfl⟩):p:=h
def adS{p:Prop}(h:p:=by
  rw[e];by_cases c:k<0
  .refine Z0 ?_;intro D y I ws I;exact⟨rfl,I.below⟩
  refine Z0 ?_;intro D y I ws I;exact⟨rfl,I.below⟩):p:=h
def vY{p:Prop}(h:p:=by
  intro o I;refine ZD ?_;intro ws I;exact⟨rfl,I.below⟩):p:=h
def abz{p:Prop}(h:p:=by
  cases rest with
  |nil=>simp at hlen;omega
  |cons x r=>exact⟨x,r,rfl⟩):p:=h
def aeX{p:Prop}(h:p:=by
  rw[Rm (f:=λ(x y:TR)=>Gl x.m y.m) C,A_,C6] at h;obtain h|h:=h
  .exact hz e h
  exact b e h):p:=h
def aeY{p:Prop}(h:p:=by
  refine⟨Z', ?_⟩;by_cases E:P+2^i*(p % 2)<C+2^i*(j % 2)
  .rw[Q' E];rw[D] at E;omega
  rw[R' E];rw[D] at E;omega):p:=h
def ada{p:Prop}(h:p:=by
  have hj:=(z'.1 T).1;rw[Tq,A8,T];unfold yo;rw[C',y_ hj];rfl):p:=h
def abJ{p:Prop}(h:p:=by
  rw[X_ (by simp;omega),X_ (by simp;omega)]):p:=h
def abK{p:Prop}(h:p:=by
  refine ea ?_;exact⟨_,_,rfl,I.sub (P' _ (N_ _))⟩):p:=h
def aeC{p:Prop}(h:p:=by
  have:(Le b.data.toList && decide ((b.data.toList.length:Int)=a.data.toList.length))=true:=by rw[<-N,<-o];exact n
  simp only[Ch,j,this];rfl):p:=h
def acm{p:Prop}(h:p:=by
  obtain h|h:=a9 n
  .exact h
  obtain⟨_,h1,_⟩:=J.2 h;cases h1):p:=h
def adq{p:Prop}(h:p:=by
  refine kB (jb rfl (kb (vs:=[_,_,_,_,_,_]) pa.out (I.wa (i:=6) (n:=6) rfl rfl) rfl) (Dc (Sc rfl) Ub)) ?_;exact⟨rfl,I.below⟩):p:=h
def adF{p:Prop}(h:p:=by
  rw[E,L,K] at c;refine Vg (c) ?_;rintro R w_ ⟨rfl,I⟩;refine⟨_,rfl, ?_⟩;refine ea ?_;exact⟨rfl,I.sub (.cons_cons _ (.cons _ (.cons _ (u_ _))))⟩):p:=h
def adm{p:Prop}(h:p:=by
  have e1:=((Oj (O:=O) (λi=>wd i) ds d hnd).1 i p1).symm.trans ((Oj (O:=O) (λi=>wd i) ds d hnd).1 j p2);injection e1 with _ e1
  omega):p:=h
theorem aeL{p:Prop}(h:p:=by
  refine Bd ?_;refine Oe (i:=3) U' rfl ?_;refine vf I 3 [_,_] ?_;refine S0 ?_;(unhygienic intros)
  repeat refine qd rfl ?_
  exact λ_ _=>rfl):p:=h
def YW{p:Prop}(h:p:=by
  exact⟨PX.nil,se.err he,rfl,(I.sub (N_ _)).Qw⟩):p:=h
def abL{p:Prop}(h:p:=by
  show(UInt8.ofNat ((r:Int)).toNat).toNat=r;rw[z9,M6];omega):p:=h
def aeh{p:Prop}(h:p:=by
  refine Ga func86 ?_;refine Ib ?_;intro D y I R v I;refine cI ?_;refine ZD ?_;intro ws I;exact⟨rfl,I.below⟩):p:=h
def kV{p:Prop}(h:p:=by
  intro b I;refine ZD ?_;intro ws I;exact⟨rfl,I.below⟩):p:=h
def adf{p:Prop}(h:p:=by
  refine ea ?_;have:b.any (λs=> !decide (s.lo.fa<s.hi.fa))=true:=E9.2 ⟨s,ms,by rw[m' (e.1 g)];rfl⟩;exact⟨by rw[lj,Q' this],I.below⟩):p:=h
def VW{p:Prop}(h:p:=by
  refine ad7 ?_;intro I;exact⟨_,_,rfl,I.at_ (i:=0) rfl,I.below⟩):p:=h
def vR{p:Prop}(h:p:=by
  exact⟨none,0,rfl,World.ownsRow_nil _ _ _ _,I.below⟩):p:=h
def aey{p:Prop}(h:p:=by
  refine Gb ?_;intro ws I;refine kB (jb rfl (kb (vs:=[_,_,_,_,_,_]) pa.out (I.wa (i:=1) (n:=6) rfl rfl) rfl) (Dc (Sc rfl) Ub)) ?_;exact⟨rfl,I.below⟩):p:=h
def ab1{p:Prop}(h:p:=by
  intro U Z hj hR;exact let⟨g,u,N,L⟩:=hR.1;ic rfl (Yd N) ⟨Below.refl _ _,g,u,rfl,L⟩):p:=h
def ado{p:Prop}(h:p:=by
  refine cd I (C _) ?_;intro S I;refine Gb ?_;intro ws I;refine kH ?_;exact⟨rfl,I.below⟩):p:=h
def ZS{p:Prop}(h:p:=by
  rw[C',y_ Z'];rfl):p:=h
def aeq{p:Prop}(h:p:=by
  have N:(O++X++Y).length=O.length+n+m:=by rw[D',D'];omega
  exact⟨O++X++Y,p,v,hd,by rw[N],by rw[N,Na,Na];exact I⟩):p:=h
def abM{p:Prop}(h:p:=by
  intro U Z hj hR;exact let⟨g,u,e1,e2⟩:=hR.1;ic rfl (Yd e1) ⟨Below.refl _ _,g,u,rfl,e2⟩):p:=h
def ad1{p:Prop}(h:p:=by
  refine Jw ?_;exact⟨FX.nil,Out.err hE2,rfl,(I.sub (N_ _)).JF⟩):p:=h
def agh{p:Prop}(h:p:=by
  rw[ja K,S8,X,F_,Q8,M8,Bool.or_false,w' (by have:¬¬s.lo.fa<s.hi.fa:=λh=>g (e.2 h);exact C9.1 this)];rfl):p:=h
def adC{p:Prop}(h:p:=by
  intro U Z hj hR;exact ic rfl (Pe (l:=(bS t.reverse)) Qa.out Qa.out Qa.out (show U 52=Value.slice _ _ _ from hR.1) (hj.hp.fV (i:=1) rfl (Y.trans e1.symm))) ⟨Below.refl _ _,rfl⟩):p:=h
def aeP{p:Prop}(h:p:=by
  refine xa ?_;intro f W Q a _;have j:=Q.bl;obtain⟨v46,v45,v44,v43,v42,v41,v40,v39,R,S,P,J,L,G,F,E,v30,D,_⟩:=a;replace I:=Q.hp;refine Be ?_;clear Q;refine ea ?_;exact⟨rfl,I.below⟩):p:=h
def hU{p:Prop}(h:p:=by
  refine ea ?_;exact⟨by rw[Q' (.inl Z')],I.below⟩):p:=h
def abW{p:Prop}(h:p:=by
  refine Ga func188 ?_;refine ea ?_;refine cd I (E _ I.below) ?_;intro v I;refine ea ?_;exact⟨rfl,I.below⟩):p:=h
def acb{p:Prop}(h:p:=by
  intro U Z hj hR;exact let⟨g,u,e1,e2⟩:=hR.1;ic rfl (bc (vs:=[_,_]) e1 rfl) ⟨Below.refl _ _,rfl⟩):p:=h
def aeM{p:Prop}(h:p:=by
  refine Gb ?_;intro ws I;refine Vk ?_;exact⟨PX.nil,se.err h0,rfl,(I.sub (N_ _)).Qw⟩):p:=h
def aby{p:Prop}(h:p:=by
  refine ea ?_;exact⟨_,rfl,⟨λ_=>E9.2 ⟨z,O' o,a⟩,λ_=>by omega⟩,I.below⟩):p:=h
def afb{p:Prop}(h:p:=by
  intro U Z hj hR;exact ic rfl (Pe (l:=(bS (vk t (n-1-a)).reverse)) Qa.out Qa.out Qa.out (show U 73=Value.slice _ _ _ from hR.1) (hj.hp.fV (i:=1) rfl (hbl2.trans e1.symm))) ⟨Below.refl _ _,rfl⟩):p:=h
def aef{p:Prop}(h:p:=by
  have G:rest=[]:=s9 Z';subst G;refine ea ?_;refine bX (by first|exact .inr rfl|exact .inl rfl) rfl  ?_;rw[I_,ah,I_] at*;rw[<-heq];exact⟨rfl,I⟩):p:=h
def yY{p:Prop}(h:p:=by
  show(max bu 0+2).toNat-(i+1)<(max bu 0+2).toNat-i;omega):p:=h
def acn{p:Prop}(h:p:=by
  intro U Z hj hR;exact let⟨g,u,N,L⟩:=hR.1;ic rfl (bc (vs:=[_,_,_]) N rfl) ⟨Below.refl _ _,g,u,rfl,L⟩):p:=h
def tY{p:Prop}(h:p:=by
  rw[Z6];exact⟨λh=>by unfold NR.fa;rw[h];rfl,pw⟩):p:=h
def ab3{p:Prop}(h:p:=by
  intro U Z hj hR;exact let⟨g,u,e1,e2⟩:=hR.1;ic rfl (bc (vs:=[_,_]) e1 rfl) ⟨Below.refl _ _,g,u,rfl,e2⟩):p:=h
def adB{p:Prop}(h:p:=by
  rintro e a' V ⟨ρ',T,R⟩;have b:(λi=>a.tmps.getD i undef)=O:=funext Y.at_;have L:(λi=>a'.tmps.getD i undef)=ρ':=funext T.at_
  cases e with
  |normal=>exact⟨⟨ρ',T,R.1⟩,by rw[b,L];exact R.2⟩
  |_=>exact⟨ρ',T,R⟩):p:=h
def aed{p:Prop}(h:p:=by
  simp only[y',i_,or_false] at k2;obtain rfl|rfl|rfl|rfl:=k2
  .exact q9 _ b
  .exact q9 _ N
  .exact H_ _ (by simp)
  exact H_ _ (by simp)):p:=h
def ae7{p:Prop}(h:p:=by
  refine ea ?_;refine aa6 ?_;refine Gb ?_;intro ws I;refine Jw ?_;exact .inl ⟨.inr ⟨J,by rw[D];decide,by rw[D];rfl⟩,I.below⟩):p:=h
def adV{p:Prop}(h:p:=by
  have h1:M<256^(ya 256 M).length:=zn Z' M;rw[sT Z' h1,t_,E6,I_,qP (λd T=>(te (B:=256) Z' M).1 d (s8.1 T)),sb,List.map_reverse]):p:=h
def adP{p:Prop}(h:p:=by
  have h1:(Cb X Q).length=((X.take i).flatMap λx=>Q.map (yp x)).length+((X.drop i).flatMap λx=>Q.map (yp x)).length:=(by unfold Cb;rw[<-D',<-r8,Y9]);rw[Pk] at h1;omega):p:=h
def NY{p:Prop}(h:p:=by
  refine ad5 ?_;rw[C',y_ hi];simp only[n9,hd]):p:=h
def abE{p:Prop}(h:p:=by
  exact⟨FX.nil,Out.err V',rfl,(I.sub (N_ _)).JF⟩):p:=h
def adI{p:Prop}(h:p:=by
  rw[ja C,q_,I7];by_cases J:i=0
  .subst J;rw[Q' rfl];rfl
  rw[R' J,jy _ (by intro h;have P:=C_ List.length h;rw[B',q',G7] at P;omega),<-z];simp):p:=h
def abt{p:Prop}(h:p:=by
  refine Gb ?_;intro D y I;refine Gd I (Ov 1 _ Z' Z') rfl ?_;intro g I;refine ZD ?_;intro ws I;exact⟨rfl,I.below⟩):p:=h
def OU{p:Prop}(h:p:=by
  intro ws I;exact⟨PX.nil,se.err J,rfl,(I.sub (N_ _)).Qw⟩):p:=h
def uY{p:Prop}(h:p:=by
  rw[K9] at hun |-;rw[D8 S] at hun |-;simpa using hun):p:=h
def abm{p:Prop}(h:p:=by
  refine N8 λhn=>X λi hi=> ?_
  cases hc2:L.getD i false with
  |true=>rfl
  |false=>exact absurd ⟨i,hi,hc2⟩ hn):p:=h
def aex{p:Prop}(h:p:=by
  cases B with
  |none=>exact run_append_nothing w t t ty e i S hi _ 0 0 (F' _) _ (Src.ofNil w S c')
  |some b=>exact run_append_nothing w t t ty e i S hi _ 0 0 (F' _) _ (Src.ofSlice w S b 0 c' [] (by simp) (λj u hu=>by simp at hu) (λu hu=>by cases hu))):p:=h
def adx{p:Prop}(h:p:=by
  refine ub ?_;refine xa ?_;intro f W Q a _;have N:=Q.bl;obtain⟨v53,v52,v51,v50,v49,v48,v47,v46,v45,v44,v43,v42,v41,v40,v39,Y,S,R,P,L,J,F,D,v30,B,H,y,s,r,o,E,G,e,_⟩:=a;replace I:=Q.hp;refine Be ?_;clear Q;refine ea ?_;exact⟨rfl,I.below⟩):p:=h
def IY{p:Prop}(h:p:=by
  rw[C8];split
  .exact List.nodup_nil
  exact G8.2 ⟨by simp,List.nodup_nil⟩):p:=h
def acZ{p:Prop}(h:p:=by
  intro U Z hj hR;exact rb rfl (Ha fi (na rfl (na rfl Oa))) (ux 1 0 P1 _ rfl) (λ_ _ ⟨v,R,hp,F⟩=>⟨v,R,F,hp⟩)):p:=h
def lX{p:Prop}(h:p:=by
  rw[G' Z'] at z;rw[z];exact⟨rfl,I.below⟩):p:=h
def CT{p:Prop}(h:p:=by
  obtain _|⟨g,l⟩:=fs
  .cases N
  have:g=f0:=by simpa using N
  rw[<-this];rfl):p:=h
def aeH{p:Prop}(h:p:=by
  have L:la TR.cells (di l x)=[]++la TR.cells (l.take i)++[wt x.m,ww (nR x.c.fa).neg,wt (nR x.c.fa).Ra,wd (nR x.c.fa).e]++la TR.cells (l.drop i):=by rw[D,Na,ri,J',J_];rfl
  exact OZ):p:=h
def LX{p:Prop}(h:p:=by
  refine pI ?_;exact⟨rfl,I.below⟩):p:=h
def aeB{p:Prop}(h:p:=by
  split at h
  .rename_i f Y;have:=List.find?_some Y;simp at this;exact absurd h this
  rename_i Y;split at h
  .cases h
  rename_i w;refine⟨λe=>w (.inl (by rw[e];rfl)),λf hm=> ?_,λf hm=> ?_⟩
  .have:=List.find?_eq_none.1 Y f hm;simpa using this
  apply N8;intro E;exact w (.inr (E9.2 ⟨f,hm,w' E⟩))):p:=h
def ae2{p:Prop}(h:p:=by
  refine Bd ?_;refine Mj 4 V' U' V' U' U' ?_;refine Gb ?_;intro ws I;refine YH (jb rfl (kb (vs:=[_,_]) pa.out (I.wa (i:=2) (n:=2) rfl rfl) rfl) (jb rfl (kb (vs:=[_,_]) pa.out (I.wa (i:=1) (n:=2) rfl rfl) rfl) (Dc (cm rfl) Ub))) ?_;exact⟨_,_,rfl,I.below⟩):p:=h
theorem abT{p:Prop}(h:p:=by
  constructor
  .refine agl ?_;(unhygienic intros)
   simpa[hb] using this
  refine ad3 ?_;(unhygienic intros)
  cases hb:Region.binds .any e with
  |false=>simp
  |true=>simpa[hb] using G e he hb):p:=h
def abU{p:Prop}(h:p:=by
  have hmn:l.length<=0+m:=by
   obtain h|h:=z_ m l.length
   .have h1:=X m h;rw[g.tl m (F' _)] at h1
    cases h1
   omega
  exact full L a w 0 g (λi hi=>X i Z') hmn):p:=h
def lF{p:Prop}(h:p:=by
  refine ea ?_;exact⟨_,rfl,λh=>(by cases h),I.below⟩):p:=h
def ab7{p:Prop}(h:p:=by
  refine Ps ?_;intro I
  cases X:l.any p with
  |true=>
   have J:=a.2 X;refine ea ?_;exact⟨rfl,I.below⟩
  |false=>
   have J:¬0<=d:=λh=>by rw[a.1 h] at X;cases X
   refine ea ?_;exact⟨rfl,I.below⟩):p:=h
def JX{p:Prop}(h:p:=by
  rw[G' Z'] at X;refine ea ?_;exact⟨_,rfl,⟨λh=>absurd h V',λh=>by rw[X] at h;cases h⟩,I.below⟩):p:=h
def aeR{p:Prop}(h:p:=by
  refine Ga func175 ?_;refine Kx ?_;intro b3 w3 I b5 w5 I b6 w6 I b7 w7 I;refine cd I (K _ (S.hp I) I.below) ?_;intro o I;refine Ib ?_;intro ws I ws I;refine pR ?_;exact⟨I.below,.inl ⟨by rw[u];decide,by rw[u];rfl⟩⟩):p:=h
def ac0{p:Prop}(h:p:=by
  intro ws I;refine kB (jb rfl (kb (vs:=[_,_,_]) pa.out (I.wa (i:=0) (n:=3) rfl rfl) rfl) (Dc (Sc rfl) Ub)) ?_;exact⟨rfl,I.below⟩):p:=h
def jU{p:Prop}(h:p:=by
  refine PF ?_;exact⟨rfl,I.below⟩):p:=h
def rW{p:Prop}(h:p:=by
  refine dJ (jb rfl (kb (vs:=[_,_,_,_,_,_]) pa.out (I.wa (i:=0) (n:=6) rfl rfl) rfl) Ub) ?_;exact⟨rfl,I.below⟩):p:=h
def lQ{p:Prop}(h:p:=by
  intro U Z hj hR;exact let⟨g,u,N,L⟩:=hR.1;ic rfl (bc (vs:=[_,_,_]) N rfl) ⟨Below.refl _ _,rfl⟩):p:=h
def aez{p:Prop}(h:p:=by
  have F:j/sz*sz+j % sz=j:=by rw[d'];exact L9 j sz
  have o:j % sz<sz:=R_ _ J;have hj:j/sz<l.length:=(by have:=(z'.1 hu).1;rw[ee Y] at this;exact Nat.div_lt_of_lt_mul (by rw[d'];exact this));obtain⟨x,C⟩:=aa hj;have L:=eu Y C;have N:(f x)[j % sz]?=some u:=(by rw[<-L,P8,Q' o,U8,F];exact hu);have B:=(World.cells?_some (hp _ _ C).1).2.2 (j % sz) o;rw[N,xu,F] at B;exact B):p:=h
def cz{p:Prop}(h:p:=by
  refine ea ?_;exact⟨_,_,rfl,I.at_ (i:=0) rfl,I.below⟩):p:=h
def ad0{p:Prop}(h:p:=by
  refine cY rfl rfl (by first|assumption|rfl) V' ?_;refine ea ?_;rw[K];refine Ib ?_;intro H w6 I ws I;refine qh 9 I ?_;refine ub ?_;refine dC (λ_ hj=>X _ (S.hp hj.hp)) ?_;refine ub ?_;refine dC (λ_ hj=>u _ (S.hp hj.hp)) ?_;refine XJ ?_;refine xa ?_;intro f W Q c;have N:=Q.bl;obtain⟨z,y,T,s,L,C,r,q,v30,_⟩:=c;replace I:=Q.hp;refine Be ?_;clear Q;exact lZ):p:=h
def adQ{p:Prop}(h:p:=by
  first|refine lB ?_|refine VC ?_
  refine mB ?_;first|refine gS ?_|(refine gT ?_;refine mL ?_)|refine gV ?_
  first|refine gS ?_|(refine gT ?_;refine vf I 0 [_,_,_] ?_)|refine gV ?_
  first|refine gS ?_|(refine gT ?_;refine mI ?_)|refine gV ?_
  first|refine gS ?_|(refine gT ?_;refine mI ?_)|refine gV ?_
  refine Hh V' rfl rfl V' ?_;exact aam):p:=h
def yQ{p:Prop}(h:p:=by
  exact⟨none,0,0,rfl,(I.sub (N_ _)).yb _ _⟩):p:=h
def adb{p:Prop}(h:p:=by
  have hJ0:J ({ w with drawn:=w.drawn+1 }:World):=hJ w _ h0 ⟨rfl,rfl,rfl,F' _,λ_ _=>rfl⟩;have hr0:∀i,(Array.replicate l.toArray.size false).getD i false=false:=λi=>(by exact fR);refine key _ _ _ _ ⟨hf.nd,hf.sz,hJ0,by simp,λk o _ hk=> ?_,λk _=>hr0 k,λi d _ hi=> ?_,λs _=>hf.at_ s,λi _ hi=> ?_,λi _ j _ _ hi=> ?_⟩ ?_
  .rw[hr0] at hk;cases hk
  .rw[hr0] at hi;cases hi
  .rw[hr0] at hi;cases hi
  .rw[hr0] at hi;cases hi
  simp[n6]):p:=h
def BI{p:Prop}(h:p:=by
  refine sv (ng (c:=B) Qa.out rfl rfl Z' b) ?_;skip;refine af9 ?_;congr 2;rw[z];omega):p:=h
def agt{p:Prop}(h:p:=by
  rw[Q' rfl] at C;obtain⟨rfl,rfl,rfl⟩:=C;obtain rfl:xs=[]:=List.map_eq_nil_iff.1 J;refine cT (sr ?_);refine vf I 11 [_,_,_,_,_,_] ?_;refine qm [_,_,_,_,_,_,_,_] (mI ?_);refine pd I 8 [_,_,_,_,_,_,_,_] ?_;intro ws I;replace I:Hp _ (_::_::_::_::_::_::_::_::.blk _ _ [_,_,_,_,_,_,_,_] _::_) _:=I;refine aI (aI (ia (je (Ad (Ad (bk (Ad (Ad (bk (Ad ?_))))))))));refine L0 ?_;exact⟨none,0,0,rfl,(I.sub (N_ _)).yb _ _⟩):p:=h
def abS{p:Prop}(h:p:=by
  have hik:i=k:=by
   obtain h|h:=z_ i k
   .exact absurd ⟨i,h,h2,G⟩ hex
   omega
  subst hik;refine⟨i,h2,G,λj hj=> ?_⟩
  cases hc2:L.getD j false with
  |true=>rfl
  |false=>exact absurd ⟨j,hj,Z',hc2⟩ hex):p:=h
def bL{p:Prop}(h:p:=by
  exact S'):p:=h
def acC{p:Prop}(h:p:=by
  simp only[fG];obtain hi|hi:=z_ i l.length
  .rw[K9,Array.getElem?_append_left (by simpa using hi)];simp[o_]
  rw[K9,Array.getElem?_append_right (by simpa using hi)];simp only[o_,X_ hi,Option.getD_none,Array.getElem?_replicate];split<;>rfl):p:=h
def ael{p:Prop}(h:p:=by
  refine Bd ?_;refine Mj 3 V' U' V' U' U' ?_;refine pd I 3 [_,_] ?_;intro ws I;replace I:Hp _ (_::_::_::.blk _ _ [_,_] _::_) _:=I;refine aB (ia (je ?_));refine YH (jb rfl (kb (vs:=[_,_]) pa.out (I.wa (i:=4) (n:=2) rfl rfl) rfl) (jb rfl (kb (vs:=[_,_]) pa.out (I.wa (i:=3) (n:=2) rfl rfl) rfl) (Dc (cm rfl) Ub))) ?_;exact⟨rfl,I.below⟩):p:=h
def Fu{p:Prop}(h:p:=by
  exact⟨g,og,rfl,I.sub (P' _ (N_ _))⟩):p:=h
def zW9{p:Prop}(h:p:=by
  cases x with
  |none=>simp at hxe
  |some C=>
   refine adU ?_;rw[C'] at hx
   cases hr:(List.range m)[k]? with
   |none=>rw[hr] at hx;simp at hx
   |some y=>
    have hkm:k<m:=(by have:=(z'.1 hr).1;simpa using this);rw[y_ hkm] at hx;simp only[n9,E8] at hx;exact⟨hkm,hx⟩):p:=h
def zW8{p:Prop}(h:p:=by
  clear hEe hgr;refine qa (sr ?_);refine vf I 1 [_,_] ?_;refine cd I (hck _ I.below) ?_;intro w29 I;refine aI (ia (sr (mI ?_)));refine Bk (ia (cF (db (Va (qa (sr (mL ?_)))))));refine cd I (hbk _ I.below) ?_;intro w35 I;refine aI (ia (sr (mI ?_)));refine Bk (ia (cF (db (Va (qa (sr (mL (Df (Sk ?_)))))))));refine im I 1 ?_;refine Bk (mB ?_);first|refine gS ?_|(refine gT ?_;refine mL ?_)|refine gV ?_
  first|refine gS ?_|(refine gT ?_;refine Df ?_)|refine gV ?_
  first|refine gS ?_|(refine gT ?_;refine Sk ?_)|refine gV ?_
  first|refine gS ?_|(refine gT ?_;refine im I 1 ?_)|refine gV ?_
  first|refine gS ?_|(refine gT ?_;refine Bk ?_)|refine gV ?_
  first|refine lB ?_|refine VC ?_
  refine ia (cT (sr ?_));refine qm [_,_] ?_;refine pd I 0 [_,_] ?_;intro ws I;replace I:Hp _ (.blk _ _ [_,_] _::_) _:=I;refine aI (ia (je (Ad ?_)));refine Vk ?_;exact⟨FX.nil,Out.err V',rfl,(I.sub (N_ _)).JF⟩):p:=h
def zW7{p:Prop}(h:p:=by
  refine Bd ?_;refine QR ?_;refine Gb ?_;intro ws I;refine YH (jb rfl (kb (vs:=[_,_]) pa.out (I.wa (i:=7) (n:=2) rfl rfl) rfl) (jb rfl (kb (vs:=[_,_]) pa.out (I.wa (i:=6) (n:=2) rfl rfl) rfl) (Dc (Sc rfl) Ub))) ?_;exact .inr ⟨J,x,y,C,hy,rfl,I.sub ((I6 [y.mh,y.gg,x.mh,x.gg] _).cons _)⟩):p:=h
def dZ{p:Prop}(h:p:=by
  exact⟨PX.nil,se.err V',rfl,(I.sub (N_ _)).Qw⟩):p:=h
def M0{p:Prop}(h:p:=by
  refine Vk ?_;exact⟨PX.nil,se.err V',rfl,(I.sub (N_ _)).Qw⟩):p:=h
def zW4{p:Prop}(h:p:=by
  refine aaT ?_;refine Ee 1 [_,_] ?_;refine dC (λ_ hj=>L _) ?_;refine Ee 0 [_,_] ?_;refine xa ?_;intro p_ z;simp only[y',i_,or_false] at z;obtain rfl|rfl:=z
  .intro f W Q d;have P:=Q.bl;obtain⟨c,t,_⟩:=d;simp only[Yf];have K:f 0=_:=t;rw[K];have g:f 1=_:=c;rw[g];replace I:=Q.hp;clear K g Q;refine pd I 1 [_,_] ?_;intro ws I;replace I:Hp _ (_::.blk _ _ [_,_] _::_) _:=I;refine Bd ?_;refine Oe (i:=2) U' rfl ?_;refine vf I 0 [_,_] ?_;exact aas
  intro f W Q d;have P:=Q.bl;obtain⟨B,c,t,_⟩:=d;simp only[Yf];have K:f 0=_:=t;rw[K];have g:f 1=_:=c;rw[g];have M:f 2=_:=B;rw[M];replace I:=Q.hp;clear K g M Q;refine pd I 1 [_,_] ?_;intro ws I;replace I:Hp _ (_::.blk _ _ [_,_] _::_) _:=I;exact aas):p:=h
def zW3{p:Prop}(h:p:=by
  intro c I;rw[Cd];refine Ji (ia (cF (db (Va (qa ?_)))));refine Xs I mixed λw_ e=> ?_;replace I:=e.hp;clear e;refine dA (i:=0) (i2:=1) U' rfl rfl ?_ ?_
  .refine vf I 1 [_,_] ?_;refine Bd ?_;refine dA (i:=1) (i2:=2) U' rfl rfl ?_ ?_
   .refine vf I 0 [_,_] ?_;exact F2
   refine pd I 3 [_,_] ?_;intro ws I;replace I:Hp _ (_::_::_::.blk _ _ [_,_] _::_) _:=I;refine Bd ?_;refine Oe (i:=1) U' rfl ?_;refine vf I 0 [_,_] ?_;exact BZ
  refine vf I 0 [_,_] ?_;refine Bd ?_;refine Oe (i:=0) U' rfl ?_;refine vf I 1 [_,_] ?_;exact F2):p:=h
def zW2{p:Prop}(h:p:=by
  refine gz [19,20] [17,18] 21 I ?_;refine ub ?_;refine dC (λ_ hj=>hs1 _) ?_;refine ub ?_;refine dC (λ_ hj=>hs2 _) ?_;refine dC (λ_ hj=>hdv _) ?_;refine ub ?_;refine ua (i:=19) (Sa _ 28 _) Sa.ext (λU Z hj hR=>Xc pa.out hj.bl (λv w2 h F=>⟨F,h⟩)) ?_;refine ua (i:=20) (Sa _ 28 _) Sa.ext (λU Z hj hR=>Xc pa.out hj.bl (λv w2 h F=>⟨F,h⟩)) ?_;refine xa ?_;intro f W Q g r;have hb_9:=Q.bl;obtain⟨v9,v8,v57,v56,v55,v39,v54,v53,v52,v51,v50,v49,v48,v47,v46,v45,v44,v43,v42,v41,v40,_⟩:=g;obtain⟨b8,L,T,R⟩:Sa _ _ _ (f 19) W:=v8;obtain⟨b9,l,m,A⟩:Sa _ _ _ (f 20) W:=v9;have c:=UJ r (i:=19) (j:=20) V' V' V' L l;replace I:=Q.qq I T R m A c;clear r c;refine Be ?_;clear L l Q;refine Ib ?_;intro ws I ws I;refine qh 10 I ?_;refine ub ?_;refine Ba (i:=2) (λU Z hj hR=>Cn (show U 59=Value.int _ _ from hR.1) Z' Z') ?_;refine dC (λ_ hj=>C _) ?_;refine ub ?_;refine Ba (i:=6) (λU Z hj hR=>Cn (show U 63=Value.int _ _ from hR.1) Z' Z') ?_;refine dC (λ_ hj=>C _) ?_;refine ub ?_;refine ua (i:=9) (Sa _ 36 _) Sa.ext (λU Z hj hR=>Xc pa.out hj.bl (λv w2 h F=>⟨F,h⟩)) ?_;refine xa ?_
  intro f W Q g;have G:=Q.bl;obtain⟨v11,v66,v65,v64,v63,v62,v61,v60,v59,v58,_⟩:=g;obtain⟨b11,H,J,B⟩:Sa _ _ _ (f 9) W:=v11;replace I:=Q.newVar I J B;refine Be ?_;clear H Q;refine Gb ?_;intro ws I;refine cd I (hsr _) ?_;intro w68 I;by_cases o:t=0
  .exact abb
  have hs9:¬t.sign=0:=λh=>o (Z6.1 h);generalize t.sign=sg2 at*;refine ea ?_;refine qh 5 I ?_;refine ub ?_;refine dC (λ_ hj=>hof _) ?_;refine dC (λ_ hj=>hpl _) ?_;refine Gv ?_;refine Ba (i:=4) (λU Z hj hR=>Cn (show U 73=Value.int _ _ from hR.1) Z' Z') ?_;refine xa ?_;intro f W Q g;have N:=Q.bl;obtain⟨v74,v73,v72,v71,v70,_⟩:=g;replace I:=Q.hp;refine Be ?_;clear Q;exact aap):p:=h
def Sb{p:Prop}(h:p:=by
  exact T'):p:=h
structure KR(q:Prop):Prop where o:q
def ZD{p q:Prop}(kQ:q)(e:KR q->p:=by
 intro kQ;refine Gb ?_;intro ws I;refine kH ?_
 revert ws I
 exact kQ.o):p:=e ⟨kQ⟩
def gJ{p q:Prop}(kQ:q)(e:KR q->p:=by
 intro kQ;refine Gb ?_;intro ws I;refine Vk ?_
 revert ws I
 exact kQ.o):p:=e ⟨kQ⟩
def rn5{p q:Prop}(kQ:q)(e:KR q->p:=by
 intro kQ;intro ws I;refine Vk ?_
 revert ws I
 exact kQ.o):p:=e ⟨kQ⟩
def jB{p q:Prop}(kQ:q)(e:KR q->p:=by
 intro kQ;simp only[l',Z9] at I;replace I:=I.sub (d_ _ _);refine ea ?_
 revert I
 exact kQ.o):p:=e ⟨kQ⟩
def rn8{p q:Prop}(kQ:q)(e:KR q->p:=by
 intro kQ;simp only[l',Z9] at I;replace I:=I.sub (d_ _ _)
 revert I
 exact kQ.o):p:=e ⟨kQ⟩
def rn9{p q:Prop}(kQ:q)(e:KR q->p:=by
 intro kQ;refine⟨_,rfl, ?_⟩;replace I:=I.join G;simp only[I',J'] at I
 revert I
 exact kQ.o):p:=e ⟨kQ⟩
def CW{p q:Prop}(kQ:q)(e:KR q->p:=by
 intro kQ;refine ea ?_;refine fS ?_;refine Ib ?_;intro b4 w4 I ws I;refine gz [] [] 33 I ?_;refine ub ?_;refine dC (λ_ hj=>K _) ?_;refine ub ?_;refine rZ ?_;refine ub ?_;refine ud (i:=15) rfl (λU Z hj hR=>(show U 33=Value.bool _ from hR.2.1)) (λU Z hj hR=>Ha fi (na (show U 35=Value.agg (List.toArray _) from hR.1) Oa)) (λZ hj=>j _ (hT.hp hj.hp)) ?_;refine ub ?_
 revert b4 w4 ws I
 exact kQ.o):p:=e ⟨kQ⟩
def Su{p q:Prop}(kQ:q)(e:KR q->p:=by
 intro kQ;refine Gb ?_;intro ws I;refine pI ?_
 revert ws I
 exact kQ.o):p:=e ⟨kQ⟩
def rS{p q:Prop}(kQ:q)(e:KR q->p:=by
 intro kQ;refine Gb ?_;intro ws I;refine Jw ?_
 revert ws I
 exact kQ.o):p:=e ⟨kQ⟩
def adM{p q:Prop}(kQ:q)(e:KR q->p:=by
 intro kQ;replace I:=I.perm (U_ (l₁:=[_,_]));simp only[I',J'] at I
 revert I
 exact kQ.o):p:=e ⟨kQ⟩
def qX{p q:Prop}(kQ:q)(e:KR q->p:=by
 intro kQ;intro ws I;refine Jw ?_
 revert ws I
 exact kQ.o):p:=e ⟨kQ⟩
def GU{p q:Prop}(kQ:q)(e:KR q->p:=by
 intro kQ;refine Gb ?_;intro ws I;refine Jy ?_
 revert ws I
 exact kQ.o):p:=e ⟨kQ⟩
def iP{p q:Prop}(kQ:q)(e:KR q->p:=by
 intro kQ;refine ui ?_;refine ui ?_;refine sv (Cs (k:=done.length) Qa.out pa.size rfl rfl Z' Z') ?_;refine Lb I (i:=0) (vs:=[_]) rfl rfl (Ac rfl) rfl pa.out rfl (by rw[La];simp only[D',V_];omega) rfl ?_;intro ws I;simp only[l'] at I
 revert ws I
 exact kQ.o):p:=e ⟨kQ⟩
def Vt{p q:Prop}(kQ:q)(e:KR q->p:=by
 intro kQ;refine ea ?_;refine sv (Ua (vs:=[_,_,_,_,_,_]) pa.out rfl ((H.ext I.below).recAt SR.len K) rfl) ?_;exact kQ.o):p:=e ⟨kQ⟩
def afJ{p q:Prop}(kQ:q)(e:KR q->p:=by
 intro kQ;refine Bd ?_;refine Oe (i:=9) U' rfl ?_;refine LB ?_;intro b42 w42 I;refine Bd ?_;refine Oe (i:=10) U' rfl ?_;refine Yl ?_;intro q R w43 I;simp only[l',Z9] at I;replace I:=I.sub (d_ _ _);refine Bd ?_;refine Mj 15 V' U' V' U' U' ?_;refine ea ?_;replace I:=I.sub (P' _ j');refine⟨⟨_,n-1,c-1,X,_,m-1,b-1,Y,O++[⟨x.m,nR (x.c.fa+y.c.fa)⟩],q,R,rfl,rfl, ?_,Z',Z',D,g,a.both h1 h2 hk, ?_⟩,by show(n-1)+(m-1)<n+m;omega, ?_⟩
 .show Value.slice _ (O.length+1) _=Value.slice _ (O++[(⟨x.m,nR (x.c.fa+y.c.fa)⟩:TR)]).length _;rw[D'];rfl
 .rw[D',Na];exact I
 revert b42 w42 q R w43 I
 exact kQ.o):p:=e ⟨kQ⟩
def ab8{p q:Prop}(kQ:q)(e:KR q->p:=by
 intro kQ;replace I:=I.perm (U_ (l₁:=[_]));simp only[I',J'] at I
 revert I
 exact kQ.o):p:=e ⟨kQ⟩
def aeA{p q:Prop}(kQ:q)(e:KR q->p:=by
 intro kQ;refine Gb ?_;intro ws I;refine kB (jb rfl (kb (vs:=[_,_,_]) pa.out (I.wa (i:=0) (n:=3) rfl rfl) rfl) (Dc (Sc rfl) Ub)) ?_
 revert ws I
 exact kQ.o):p:=e ⟨kQ⟩
def afN{p q:Prop}(kQ:q)(e:KR q->p:=by
 intro kQ;refine ea ?_;refine rf 8 (λv V=>∃i:Nat,i<=n/\v=wd i/\(l.take i).any p=false/\Hp w [] V) (λv _=>n-(intOf v).toNat) ?_ ?_
 .exact⟨0,N' _,rfl,rfl,I⟩
 exact kQ.o):p:=e ⟨kQ⟩
def tJ{p q:Prop}(kQ:q)(e:KR q->p:=by
 intro kQ;refine EF ?_;refine ea ?_;exact kQ.o):p:=e ⟨kQ⟩
def abB{p q:Prop}(kQ:q)(e:KR q->p:=by
 intro kQ;refine Gb ?_;intro ws I;refine PF ?_
 revert ws I
 exact kQ.o):p:=e ⟨kQ⟩
def ac3{p q:Prop}(kQ:q)(e:KR q->p:=by
 intro kQ;refine ea ?_;refine ZV ?_;refine Ib ?_;intro b4 w4 I ws I;refine gz [] [] 18 I ?_;refine ub ?_;refine dC (λ_ hj=>K _) ?_;refine ub ?_;refine ud (i:=9) rfl (λU Z hj hR=>(show U 35=Value.bool _ from hR.2.1)) (λU Z hj hR=>Ha fi (na (show U 37=Value.agg (List.toArray _) from hR.1) Oa)) (λZ hj=>z _) ?_;refine ub ?_
 revert b4 w4 ws I
 exact kQ.o):p:=e ⟨kQ⟩
def wQ{p q:Prop}(kQ:q)(e:KR q->p:=by
 intro kQ;refine Gb ?_;intro ws I;refine dJ (jb rfl (kb (vs:=[_,_,_]) pa.out (I.wa (i:=1) (n:=3) rfl rfl) rfl) Ub) ?_
 revert ws I
 exact kQ.o):p:=e ⟨kQ⟩
def afe{p q:Prop}(kQ:q)(e:KR q->p:=by
 intro kQ;refine sv (bU rfl rfl V') ?_;refine ea ?_;rw[x];replace I:=I.sub (L' _ (P' _ j'));refine⟨⟨i+1,_,_,_,Z',rfl,rfl,rfl,d, ?_⟩,by show n-(i+1)<n-i;omega, ?_⟩
 .rw[ja K,List.mapIdx_concat,q',T9 Z',Na,j];exact I
 revert I
 exact kQ.o):p:=e ⟨kQ⟩
def agy{p q:Prop}(kQ:q)(e:KR q->p:=by
 intro kQ;refine⟨_,rfl, ?_⟩;replace I:=I.ext M;refine ea ?_;refine⟨⟨i+1,Z',rfl,by rw[ja o,S8,X,Q8,M8,a];rfl,I⟩,by show n-(i+1)<n-i;omega, ?_⟩
 revert I
 exact kQ.o):p:=e ⟨kQ⟩
def afH{p q:Prop}(kQ:q)(e:KR q->p:=by
 intro kQ;have hed':∀o',l.toArray[i]?=some o'->∀e∈o'.after,Region.binds .any e=true->L.getD e.on false=true:=λo' K=>(by rw[W] at K;injection K with K;subst K;exact hed);have E:i<m:=by
  obtain h|h:=z_ i m
  .exact h
  exfalso;obtain h2|h2:=z_ m i
  .have G:=hdep (i-m) Z';rw[show m+(i-m)=i by omega] at G;have h4:(i-m==0)=false:=by simp;omega
   rw[h4,F_] at G;have:=fh hM g.cl i m hed' G;rw[g.tl m (F' _)] at this
   cases this
  obtain rfl:i=m:=Z';have h4:(l.length==i)=false:=by simp;omega
  rw[h4,F_] at htail;have h5:=M_.1 htail;obtain⟨j,hj,hjf,hju⟩:=hsome2;have h6:=h5 j (by simpa using hj);have h7:fl.contains j=false:=by simpa using hjf
  rw[h7,F_] at h6;have:=fh hM g.cl i j hed' h6;rw[hju] at this
  cases this
 revert hed' E
 exact kQ.o):p:=e ⟨kQ⟩
def af9{p q:Prop}(kQ:q)(e:KR q->p:=by
 intro kQ;refine sv (jh Qa.out Qa.out rfl Z' Z') ?_;refine al (aI (ia (je ?_)));refine qa1 ?_;refine⟨?_,Below.refl _ _⟩;exact kQ.o):p:=e ⟨kQ⟩
def abO{p q:Prop}(kQ:q)(e:KR q->p:=by
 intro kQ;refine ea ?_;refine oR ?_;refine cd I (K _) ?_;intro g I;refine ea ?_;refine oR ?_;refine cd I (K _) ?_;intro G I;refine ea ?_;refine⟨⟨i+1,Z',rfl,by rw[t1];rfl,by rw[t2];rfl,I⟩,by show f.m-(i+1)<f.m-i;omega, ?_⟩
 revert g G I
 exact kQ.o):p:=e ⟨kQ⟩
def aei{p q:Prop}(kQ:q)(e:KR q->p:=by
 intro kQ;refine pd I 2 [_,_] ?_;intro ws I;replace I:Hp _ (_::_::.blk _ _ [_,_] _::_) _:=I
 revert ws I
 exact kQ.o):p:=e ⟨kQ⟩
def ac1{p q:Prop}(kQ:q)(e:KR q->p:=by
 intro kQ;refine Nm ?_;intro u e I;refine EC ?_;intro N X W I
 revert u e N X W I
 exact kQ.o):p:=e ⟨kQ⟩
def acu{p q:Prop}(kQ:q)(e:KR q->p:=by
 intro kQ;refine pd I 1 [_,_] ?_;intro ws I;replace I:Hp _ (_::.blk _ _ [_,_] _::_) _:=I
 revert ws I
 exact kQ.o):p:=e ⟨kQ⟩
def AW{p q:Prop}(kQ:q)(e:KR q->p:=by
 intro kQ;refine Sy (ia (cT (sr (mI ?_))));refine sv (Xp (s:=8) (m:=256) rfl rfl V' V') ?_;refine aI (ia (mb (mI ?_)));refine al (aI (ia (sr (mI (mI ?_)))));refine vA ?_;exact kQ.o):p:=e ⟨kQ⟩
def acD{p q:Prop}(kQ:q)(e:KR q->p:=by
 intro kQ;refine ea ?_;refine Od 13 I ?_;refine Wi (i) ?_;refine Ba (i:=3) (λU Z hj hR=>Ma pa.out (show U 30=Value.pointer _ from hR.1) ((s2.ext hj.hp.below).Dl (by assumption))) ?_;refine ub ?_;refine Wi (i) ?_;refine Ba (i:=8) (λU Z hj hR=>Ma pa.out (show U 35=Value.pointer _ from hR.1) ((s1.ext hj.hp.below).Dl (by assumption))) ?_;refine ub ?_;exact kQ.o):p:=e ⟨kQ⟩
def BS{p q:Prop}(kQ:q)(e:KR q->p:=by
 intro kQ;refine ea ?_;refine Od 8 I ?_;refine Wi (j) ?_;refine Ym (λ_ hj=>(H.ext hj.hp.below).Dl a) ?_;refine ub ?_;refine Wi (j) ?_;refine Ym (λ_ hj=>(K.ext hj.hp.below).Dl i) ?_;exact kQ.o):p:=e ⟨kQ⟩
def abN{p q:Prop}(kQ:q)(e:KR q->p:=by
 intro kQ;have F:=Q.at_ E;refine sr ?_;refine Ji (ia (qa (cT (db (Va (qa (Pc (sr (mI (aI (ia (sr (aI (ia (qa (sr (mI (mL (Df ?_)))))))))))))))))));refine Ji (ia (cT (mb (mL (mI ?_)))));refine sv (Eb (k:=done.length) Qa.out pa.size rfl rfl Z' Z') ?_;refine sv (Ma pa.out rfl ((hy _ _ I).fP E)) ?_
 revert F
 exact kQ.o):p:=e ⟨kQ⟩
def abo{p q:Prop}(kQ:q)(e:KR q->p:=by
 intro kQ;intro ws I;refine Jy ?_
 revert ws I
 exact kQ.o):p:=e ⟨kQ⟩
def Ps{p q:Prop}(kQ:q)(e:KR q->p:=by
 intro kQ;refine⟨_,rfl, ?_⟩;replace I:=I.ext M
 revert I
 exact kQ.o):p:=e ⟨kQ⟩
def agl{p q:Prop}(kQ:q)(e:KR q->p:=by
 intro kQ;rintro ⟨h1,h2⟩;have W:l.toArray[i]?=some l[i]:=by simp[h1]
 rw[W] at h2;simp only[n9,F9,Z_,o7] at h2;refine⟨h1,h2.1,l[i],W,λe he hb=> ?_⟩;have:=X7.1 h2.2 e he
 revert h1 W h2 e he hb this
 exact kQ.o):p:=e ⟨kQ⟩
def agm{p q:Prop}(kQ:q)(e:KR q->p:=by
 intro kQ;replace I:=I.perm (U_ (l₁:=[_,_,_,_,_,_,_,_,_,_,_,_,_,_,_]));simp only[I',J'] at I
 revert I
 exact kQ.o):p:=e ⟨kQ⟩
def aeU{p q:Prop}(kQ:q)(e:KR q->p:=by
 intro kQ;refine ea ?_;refine qh 11 I ?_;refine ub ?_;refine Ba (i:=3) (λU Z hj hR=>Vb Qa.out pa.size (show U 29=Value.slice _ _ _ from hR.1) (show U 30=Value.int _ _ from hR.2.1) Z' Z') ?_;refine fk [_,_,_] (λ_ hj=>(H.ext hj.hp.below).recAt NR.len C) ?_;refine dC (λ_ hj=>g _) ?_;refine ub ?_;refine Ba (i:=9) (λU Z hj hR=>Vb Qa.out pa.size (show U 35=Value.slice _ _ _ from hR.1) (show U 36=Value.int _ _ from hR.2.1) Z' Z') ?_;refine fk [_,_,_] (λ_ hj=>(H.ext hj.hp.below).recAt NR.len C) ?_;exact kQ.o):p:=e ⟨kQ⟩
def acr{p q:Prop}(kQ:q)(e:KR q->p:=by
 intro kQ;refine Ib ?_;intro D y I ws I;refine Vk ?_
 revert D y ws I
 exact kQ.o):p:=e ⟨kQ⟩
def CY{p q:Prop}(kQ:q)(e:KR q->p:=by
 intro kQ;intro s' hs';have hni:((l.toArray[i]?).bind (·.dst))≠some s':=hs' i E (by rw[Qd S];simp);have hold:=g.nx s' λj hj R=>hs' j hj (by rw[Qd S];simp[R]);rw[W] at hni;simp only[A6] at hni
 revert s' hs' hold hni
 exact kQ.o):p:=e ⟨kQ⟩
def acH{p q:Prop}(kQ:q)(e:KR q->p:=by
 intro kQ;refine Ga func96 ?_;refine Gb ?_;intro G Z I;refine cd I (h1 _ (J.ext I.below)) ?_;intro t I;rw[j];refine ea ?_;refine cd I (tg A n c ds _ (J.ext I.below) b) ?_;intro g I;refine ea ?_;refine qh 6 I ?_;refine ub ?_;refine dC (λ_ hj=>tg A n c ds _ (J.ext hj.hp.below) b) ?_
 revert G Z t g I
 exact kQ.o):p:=e ⟨kQ⟩
def PW{p q:Prop}(kQ:q)(e:KR q->p:=by
 intro kQ;refine gT ?_;refine su (gT ?_);refine sv (Eb (k:=j) Qa.out pa.size rfl rfl Z' Z') ?_;refine gT ?_;refine nH ?_;refine ea ?_;exact kQ.o):p:=e ⟨kQ⟩
def uO{p q:Prop}(kQ:q)(e:KR q->p:=by
 intro kQ;refine Lb I (i:=0) (vs:=[_,_,_]) rfl rfl (Xe rfl) rfl pa.out rfl Z' rfl ?_;intro ws I;simp only[l'] at I
 revert ws I
 exact kQ.o):p:=e ⟨kQ⟩
def aeE{p q:Prop}(kQ:q)(e:KR q->p:=by
 intro kQ;refine sv (zg rfl rfl) ?_;refine ea ?_;refine bT ?_;refine ea ?_;refine vT ?_;intro ws I;simp only[l'] at I;rw[hand,es,W_,Cc (by rw[o];omega),vt,<-G,f] at I;refine ea ?_;refine sv (Xp (s:=1) (m:=2) rfl rfl V' V') ?_;refine ea ?_;rw[es];refine⟨⟨i+1,Z',rfl,by rw[T];rfl,I⟩,by show K-(i+1)<K-i;omega, ?_⟩
 revert ws I
 exact kQ.o):p:=e ⟨kQ⟩
def adH{p q:Prop}(kQ:q)(e:KR q->p:=by
 intro kQ;refine aL (ia (sr (mL (mI ?_))));refine sv (Kc (k:=(x.toNat)) Qa.out pa.size rfl rfl Z' Z') ?_;rw[Tr] at I;have o:(jj (List.replicate v.toNat 0)).length=v.toNat:=by simp[jj]
 refine vT ?_;intro ws I;simp only[l'] at I;rw[show xb (jj (List.replicate v.toNat 0)) (x.toNat*1) [.int .u8 1]=jj ((List.replicate v.toNat 0).set x.toNat 1) from dP (l:=List.replicate v.toNat 0) (i:=x.toNat) (c:=1) (by rw[M9];omega)] at I;refine ea ?_
 revert o ws I
 exact kQ.o):p:=e ⟨kQ⟩
def pW{p q:Prop}(kQ:q)(e:KR q->p:=by
 intro kQ;refine qh 12 I ?_;refine ub ?_;refine dG (Wi (i) ?_);refine ub ?_;refine dG (Ym (λ_ hj=>((H.ext hj.hp.below).recAt TR.len S).cell (i:=0) rfl) ?_);refine ub ?_;refine xa ?_;intro f W Q a
 revert f W Q a
 exact kQ.o):p:=e ⟨kQ⟩
def ad3{p q:Prop}(kQ:q)(e:KR q->p:=by
 intro kQ;rintro ⟨h1,h2,o,W,G⟩;refine⟨h1, ?_⟩;rw[W];simp only[n9,F9,Z_,o7];refine⟨h2,X7.2 λe he=> ?_⟩
 revert h1 h2 o W G e he
 exact kQ.o):p:=e ⟨kQ⟩
def aff{p q:Prop}(kQ:q)(e:KR q->p:=by
 intro kQ;unfold ByteArray.toList;have:∀(n i:Nat)(r:List UInt8),s.size-i=n->ByteArray.toList.loop s i r=r.reverse++s.data.toList.drop i:=by
  intro n
  induction n with
  |zero=>
   intro i r h;rw[ByteArray.toList.loop,R' Z',T8 (by rw[H6];show s.size<=i;omega)];simp
  |succ n W=>
   intro i r h;have hi:i<s.size:=Z';rw[ByteArray.toList.loop,Q' hi,W (i+1) _ Z'];have v:i<s.data.toList.length:=by rw[H6];exact hi
   rw[m9 v];have:s.get! i=s.data.toList[i]:=(by show s.data[i]! =_;rw[getElem!_pos s.data i (by simpa using v)];simp);simp[this]
 revert this
 exact kQ.o):p:=e ⟨kQ⟩
def abu{p q:Prop}(kQ:q)(e:KR q->p:=by
 intro kQ;refine Gb ?_;intro ws I;refine dJ (jb rfl (kb (vs:=[_,_,_,_,_,_]) pa.out (I.wa (i:=0) (n:=6) rfl rfl) rfl) Ub) ?_
 revert ws I
 exact kQ.o):p:=e ⟨kQ⟩
def aaM{p q:Prop}(kQ:q)(e:KR q->p:=by
 intro kQ;refine ea ?_;refine Od 9 I ?_;refine Ba (i:=3) (λU Z hj hR=>Vb Qa.out pa.size (show U 56=Value.slice _ _ _ from hR.1) (show U 57=Value.int _ _ from hR.2.1) Z' Z') ?_;refine Ym (λ_ hj=>(sA.ext hj.bl).Dl hgc) ?_;refine ub ?_;refine Ba (i:=7) (λU Z hj hR=>Vb Qa.out pa.size (show U 60=Value.slice _ _ _ from hR.1) (show U 61=Value.int _ _ from hR.2.1) Z' Z') ?_;refine Ym (λ_ hj=>(s2.ext hj.hp.below).Dl hge) ?_;exact kQ.o):p:=e ⟨kQ⟩
def aaP{p q:Prop}(kQ:q)(e:KR q->p:=by
 intro kQ;replace I:=hJ.hp;refine Be ?_;refine sv (Kc (k:=(i+j)) Qa.out pa.size rfl rfl Z' Z') ?_;refine tT ?_;intro ws I;simp only[l',Z9] at I;rw[show xb (la NR.cells (S.map nR)) ((i+j)*3) [ww (nR (o+y)).neg,wt (nR (o+y)).Ra,wd (nR (o+y)).e]=la NR.cells ((S.map nR).set (i+j) (nR (o+y))) from ve NR.len Z',<-c9,p] at I;refine ea ?_
 revert ws I
 exact kQ.o):p:=e ⟨kQ⟩
def aee{p q:Prop}(kQ:q)(e:KR q->p:=by
 intro kQ;have hputi:∀d,(l.toArray[i]?).bind (·.dst)=some d->(a.put o.dst v).tmps.getD d undef=v:=λd hd=>(by rw[W] at hd;simp only[A6] at hd;rw[hd,bf (hd1 d hd),Q' rfl]);have hfd:∀j∈fr,j≠i->L.getD j false=true->i∈fr->∀e,(l.toArray[j]?).bind (·.dst)=some e->a.tmps.getD e undef≠v:=λj hj z R hif e hje heq=>by
  obtain⟨b,hb1,hb2⟩:=g.fb j hj R e hje;obtain⟨b',hv1,hb3,_⟩:=hfv hif;rw[hb1,hv1] at heq;injection heq with heq
  injection heq with heq
  injection heq with heq
  omega
 revert hputi hfd
 exact kQ.o):p:=e ⟨kQ⟩
def bM{p q:Prop}(kQ:q)(e:KR q->p:=by
 intro kQ;refine sv (Cs (k:=done.length) Qa.out pa.size rfl rfl Z' Z') ?_;refine EF ?_;refine ea ?_;exact kQ.o):p:=e ⟨kQ⟩
def Z2{p q:Prop}(kQ:q)(e:KR q->p:=by
 intro kQ;refine ea ?_;refine qh 11 I ?_;refine ub ?_;refine dG (Wi (i) ?_);refine dG (fk [_,_,_,_,_,_] (λ_ hj=>(H.ext hj.hp.below).recAt SR.len K) ?_);refine ud (i:=6) rfl (λU Z hj hR=>(show U 19=Value.bool _ from hR.2.1)) (λU Z hj hR=>Ha fi (na (show U 23=Value.agg (List.toArray _) from hR.1) Oa)) (λZ hj=>d _) ?_;refine ub ?_;refine dG (Wi (j) ?_);refine dG (fk [_,_,_,_,_,_] (λ_ hj=>(H.ext hj.hp.below).recAt SR.len hu) ?_);exact kQ.o):p:=e ⟨kQ⟩
def PZ{p q:Prop}(kQ:q)(e:KR q->p:=by
 intro kQ;refine Ga func162 ?_;refine Gb ?_;intro j B I;refine cd I (K _ (S.hp I) I.below) ?_;intro W I;refine ea ?_;refine cd I (t _ (S.hp I) I.below) ?_;intro D I;refine ea ?_
 revert j B W D I
 exact kQ.o):p:=e ⟨kQ⟩
def WZ{p q:Prop}(kQ:q)(e:KR q->p:=by
 intro kQ;simp only[I',J'] at I;refine Gb ?_;intro ws I;refine Jy ?_
 revert ws I
 exact kQ.o):p:=e ⟨kQ⟩
def OQ{p q:Prop}(kQ:q)(e:KR q->p:=by
 intro kQ;have G:=hdep (i-m) Z';rw[show m+(i-m)=i by omega] at G;have h4:(i-m==0)=false:=by simp;omega
 rw[h4,F_] at G
 revert h4 G
 exact kQ.o):p:=e ⟨kQ⟩
def IZ{p q:Prop}(kQ:q)(e:KR q->p:=by
 intro kQ;rw[hp3] at hp2;refine g.nx p.1 λj hj R B=> ?_;have h6:=M_.1 hp2 j (by simpa using hj);rw[B] at h6;simp only[beq_self_eq_true,V7,F_,Z_] at h6;have:=fh hM g.cl j i (λo' K e he hb=>g.cl j o' K R e he hb) h6.2
 revert hp2 j hj R B h6 this
 exact kQ.o):p:=e ⟨kQ⟩
def ae1{p q:Prop}(kQ:q)(e:KR q->p:=by
 intro kQ;replace I:=I.perm (U_ (l₁:=[_,_]));simp only[I',J'] at I;replace I:=I.perm (U_ (l₁:=[_,_]));simp only[I',J'] at I
 revert I
 exact kQ.o):p:=e ⟨kQ⟩
def u0{p q:Prop}(kQ:q)(e:KR q->p:=by
 intro kQ;refine cd I (Oi s q _ (F s (O' K)) R) ?_;intro g I;refine ik I ?_;intro t y I;refine pd I 0 [_,_,_,_,_,_] ?_;intro ws I;replace I:Hp _ (.blk _ _ [_,_,_,_,_,_] _::_) _:=I;refine ia (qa (sr (mI ?_)));refine Jr (mB (gT (mI (gT ?_))));refine Ji ?_;refine lB ?_;refine mB (gT (mI (gT ?_)));refine sv (gR rfl rfl V') ?_;refine ea ?_
 revert g t y ws I
 exact kQ.o):p:=e ⟨kQ⟩
def abc{p q:Prop}(kQ:q)(e:KR q->p:=by
 intro kQ;rw[List.take_take,T9 Z',List.drop_take,J_,J_,List.take_append,List.take_append];simp only[q',T9 (show o<=cur.toList.length by omega)];rw[G' (l:=cur.toList.take o) (by simp;omega),G' (l:=vs) Z'];exact kQ.o):p:=e ⟨kQ⟩
def aaN{p q:Prop}(kQ:q)(e:KR q->p:=by
 intro kQ;refine pd I 0 [_,_,_] ?_;intro ws I;replace I:Hp _ (.blk _ _ [_,_,_] _::_) _:=I
 revert ws I
 exact kQ.o):p:=e ⟨kQ⟩
def tZ{p q:Prop}(kQ:q)(e:KR q->p:=by
 intro kQ;refine wh [] [0,0,0,4,15,31,31,31,255,511,1023] 4 [[(2,none)],[(1,none)],[],[(9,some 2)]] [(3,10),(2,9),(1,8),(0,7)] [([],6,[(3,10),(2,9),(1,8),(0,7)])] I mixed U' U' V' ?_;refine Ee 2 [_,_] ?_;refine Gv ?_;refine dC (λ_ hj=>x _ (S.hp hj.hp)) ?_;refine dC (λ_ hj=>l _ (S.hp hj.hp)) ?_;refine xa ?_;intro p_ z;simp only[y',i_,or_false] at z
 revert p_ z
 exact kQ.o):p:=e ⟨kQ⟩
def aaO{p q:Prop}(kQ:q)(e:KR q->p:=by
 intro kQ;rw[<-BA,f] at T;have h:zc.toArray.size=sz:=by simpa using f
 have a:=TN parts hp;simp only[execOp,a,Instr.buildSlice,Sem.run_bind,run_underlying S,Result.andThen_ok,qe D,gt_iff_lt,R' g,R' J,o,r,Sem.run_pure,h,T]
 revert T h a
 exact kQ.o):p:=e ⟨kQ⟩
def WV{p q:Prop}(kQ:q)(e:KR q->p:=by
 intro kQ;refine ea ?_;refine qh 8 I ?_;refine ub ?_;refine dG (Wi (i) ?_);refine dG (fk [_,_,_] (λ_ hj=>(H.ext hj.hp.below).recAt NR.len C) ?_);refine ub ?_;exact kQ.o):p:=e ⟨kQ⟩
def mw{p q:Prop}(kQ:q)(e:KR q->p:=by
 intro kQ;refine nH ?_;refine ea ?_;exact kQ.o):p:=e ⟨kQ⟩
def aaQ{p q:Prop}(kQ:q)(e:KR q->p:=by
 intro kQ;have I:=Hp.start w;have x:∀Z,Nd Z->Zc 67 #[wd 1] Z (.agg #[ww (nR (1:Dyadic)).neg,wt (nR (1:Dyadic)).Ra,wd (nR (1:Dyadic)).e]):=λZ P=>Sm 1 Z P V' V';have l:=λZ P=>Yt (nR (1:Dyadic)) (-1) Z P (by have:=Sz.one.Ra;omega) (by decide+kernel) (by decide+kernel) V' V';rw[Ta,R7] at l
 revert I x l
 exact kQ.o):p:=e ⟨kQ⟩
def XQ{p q:Prop}(kQ:q)(e:KR q->p:=by
 intro kQ;rw[hL];refine Ny m (λk h1 h2=> ?_) hend fuel m a w (F' _) hml hfu ?_
 .have:=hready (k-m) Z';rwa[show m+(k-m)=k by omega] at this
 exact kQ.o):p:=e ⟨kQ⟩
def abf{p q:Prop}(kQ:q)(e:KR q->p:=by
 intro kQ;refine Ib ?_;intro J w5 I ws I;refine Od 9 I ?_;refine ud (i:=4) rfl (λU Z hj hR=>(show U 15=Value.bool _ from hR.2.1)) (λU Z hj hR=>Ha fi (na (show U 16=Value.agg (List.toArray _) from hR.1) Oa)) (λZ hj=>q _ (S.hp hj.hp)) ?_;refine ub ?_;refine dG (Wi (j) ?_);refine dG (fk [_,_,_,_,_,_] (λ_ hj=>(H.ext hj.hp.below).recAt SR.len a) ?_)
 revert J w5 ws I
 exact kQ.o):p:=e ⟨kQ⟩
def L1{p q:Prop}(kQ:q)(e:KR q->p:=by
 intro kQ;refine qa (sr (mI ?_));refine Jr (mB (gT (mL (gT (mI (gT ?_))))));refine su (gT ?_);refine sv (Eb (k:=Y) Qa.out pa.size rfl rfl Z' Z') ?_;refine gT ?_;refine sv (Zi ae.out rfl) ?_;refine Fc rfl rfl ?_;refine sv (Ma pa.out rfl (((hr.ext I.below).recAt TR.len hx).cell (i:=0) rfl)) ?_;refine ea ?_;exact kQ.o):p:=e ⟨kQ⟩
def Z0{p q:Prop}(kQ:q)(e:KR q->p:=by
 intro kQ;refine Ga func107 ?_;refine Ib ?_;intro D y I ws I;refine kH ?_
 revert D y ws I
 exact kQ.o):p:=e ⟨kQ⟩
def fM{p q:Prop}(kQ:q)(e:KR q->p:=by
 intro kQ;refine SM ?_;rintro b e ⟨rfl,M⟩;try revert M
 try revert e
 try revert b
 exact kQ.o):p:=e ⟨kQ⟩
def KS{p q:Prop}(kQ:q)(e:KR q->p:=by
 intro kQ;rw[b] at W;refine ea ?_;refine JI ?_;refine ea ?_;refine cd I (W _ (Below.refl _ _)) ?_;intro T I;refine ea ?_
 revert W T I
 exact kQ.o):p:=e ⟨kQ⟩
def AR{p q:Prop}(kQ:q)(e:KR q->p:=by
 intro kQ;refine HC ?_;refine ea ?_;refine qS ?_;refine ea ?_;exact kQ.o):p:=e ⟨kQ⟩
def S0{p q:Prop}(kQ:q)(e:KR q->p:=by
 intro kQ;refine Bd ?_;refine QR ?_;refine Gb ?_;intro ws I;refine⟨⟨_,_,rfl,rfl,I.sub (.cons_cons _ (.cons_cons _ (.cons_cons _ (N_ _))))⟩, ?_⟩
 revert ws I
 exact kQ.o):p:=e ⟨kQ⟩
def ZZ{p q:Prop}(kQ:q)(e:KR q->p:=by
 intro kQ;refine Ga func272 ?_;refine Gb ?_;intro T q I;refine Od 8 I ?_;refine Ym (λ_ hj=>(hj.hp.below.cell (cn hp)).trans hp) ?_;refine Ba (i:=4) (λU Z hj hR=>Vb Qa.out pa.size (show U 7=Value.slice _ _ _ from hR.1) rfl Z' Z') ?_;refine px ?_;refine Ym (λ_ hj=>Ab hj.hp.below (((H.recAt FX.len J)) 0 _ rfl)) ?_;refine ub ?_
 revert T q I
 exact kQ.o):p:=e ⟨kQ⟩
def Xv{p q:Prop}(kQ:q)(e:KR q->p:=by
 intro kQ;refine ea ?_;refine sv (Ma pa.out rfl ((H.ext I.below).Dl S)) ?_;refine ea ?_;exact kQ.o):p:=e ⟨kQ⟩
def LL{p q:Prop}(kQ:q)(e:KR q->p:=by
 intro kQ;refine ea ?_;refine pD ?_;refine ea ?_;obtain⟨N,L⟩:=acV C (by simp[Tb];omega);rw[N,L]
 revert N L
 exact kQ.o):p:=e ⟨kQ⟩
def VB{p q:Prop}(kQ:q)(e:KR q->p:=by
 intro kQ;simp only[Yf];have s:f 0=_:=v20;rw[s];have H:f 1=_:=j;rw[H];have o:f 2=_:=G;rw[o]
 revert s H o
 exact kQ.o):p:=e ⟨kQ⟩
def j0{p q:Prop}(kQ:q)(e:KR q->p:=by
 intro kQ;refine Ga func208 ?_;refine Gb ?_;intro T q I;refine Od 6 I ?_;refine Ym (λ_ hj=>(hj.hp.below.cell (cn hp)).trans hp) ?_;refine Ba (i:=3) (λU Z hj hR=>Vb Qa.out pa.size (show U 6=Value.slice _ _ _ from hR.1) rfl Z' Z') ?_;refine px ?_;refine Ym (λ_ hj=>Ab hj.hp.below (((H.recAt PX.len J)) 0 _ rfl)) ?_
 revert T q I
 exact kQ.o):p:=e ⟨kQ⟩
def F0{p q:Prop}(kQ:q)(e:KR q->p:=by
 intro kQ;refine⟨g.nd,g.sz,λs=> ?_⟩;by_cases hs:∃i,(i,s)∈ds
 .obtain⟨i,hi⟩:=hs;rw[(Oj _ ds s hnd).1 i hi,(hdsm i s hi).2]
 revert s hs
 exact kQ.o):p:=e ⟨kQ⟩
def Zt{p q:Prop}(kQ:q)(e:KR q->p:=by
 intro kQ;refine⟨_,rfl, ?_⟩;replace I:=I.Ed (x:=.row _ _ _ _ _ _) M t
 revert I
 exact kQ.o):p:=e ⟨kQ⟩
def yT{p q:Prop}(kQ:q)(e:KR q->p:=by
 intro kQ;have h1:L.toList.countP (λb=>b)=L.toList.length:=(by have:=g.ls;simp only[H6];omega);have h2:=G6.1 h1
 revert h1 h2
 exact kQ.o):p:=e ⟨kQ⟩
def qG{p q:Prop}(kQ:q)(e:KR q->p:=by
 intro kQ;refine⟨_,rfl, ?_⟩;replace I:=I.join h4;simp only[I',J'] at I
 revert I
 exact kQ.o):p:=e ⟨kQ⟩
def sG{p q:Prop}(kQ:q)(e:KR q->p:=by
 intro kQ;refine Ga func116 ?_;refine Gb ?_;intro G Z I;refine cd I (Lj A n c ds _ (J.ext I.below) b) ?_;intro e I
 revert G Z e I
 exact kQ.o):p:=e ⟨kQ⟩
def aaF{p q:Prop}(kQ:q)(e:KR q->p:=by
 intro kQ;refine Gb ?_;intro ws I;refine kB (jb rfl (kb (vs:=[_,_]) pa.out (I.wa (i:=3) (n:=2) rfl rfl) rfl) (Dc (Sc rfl) Ub)) ?_
 revert ws I
 exact kQ.o):p:=e ⟨kQ⟩
def yZ{p q:Prop}(kQ:q)(e:KR q->p:=by
 intro kQ;refine ea ?_;refine qh 17 I ?_;refine ub ?_;refine Wi (i) ?_;refine px ?_;refine Ym (λ_ hj=>((hr.ext hj.hp.below).recAt TR.len C).cell (i:=0) rfl) ?_;refine ub ?_;refine Wi (j) ?_;refine px ?_;refine Ym (λ_ hj=>((G.ext hj.hp.below).recAt TR.len hy).cell (i:=0) rfl) ?_;refine dC (λ_ hj=>hmul _) ?_;refine ub ?_;exact kQ.o):p:=e ⟨kQ⟩
def adY{p q:Prop}(kQ:q)(e:KR q->p:=by
 intro kQ;rw[T_];show Calls _ _ _ _ λr V=>∃g:PX,se (Ya q.ts (Ud v (Q.map PX.ts) (j+1)) p j 128).1 v (Ya q.ts (Ud v (Q.map PX.ts) (j+1)) p j 128).2 g/\r=.returned (.tuple #[.agg #[wd g.v,wn g.A g.n g.c],wd (Ya q.ts (Ud v (Q.map PX.ts) (j+1)) p j 128).1])/\Hp w [g.row] V;exact kQ.o):p:=e ⟨kQ⟩
def afc{p q:Prop}(kQ:q)(e:KR q->p:=by
 intro kQ;have F:bN b*(bN a/bN b)+bN a % bN b=bN a:=L9 _ _;have m:(bN b:Int)*((bN a/bN b:Nat):Int)+((bN a % bN b:Nat):Int)=(bN a:Int):=by rw[<-m_,<-G9,F]
 revert F m
 exact kQ.o):p:=e ⟨kQ⟩
def JB{p q:Prop}(kQ:q)(e:KR q->p:=by
 intro kQ;refine ea ?_;refine sv (Ma pa.out rfl (((H.ext I.below).recAt TR.len C).cell (i:=0) rfl)) ?_;exact kQ.o):p:=e ⟨kQ⟩
def aaA{p q:Prop}(kQ:q)(e:KR q->p:=by
 intro kQ;refine ea ?_;refine⟨⟨i+1,Z',rfl,I⟩,by show n-(i+1)<n-i;omega, ?_⟩;exact kQ.o):p:=e ⟨kQ⟩
def kr{p q:Prop}(kQ:q)(e:KR q->p:=by
 intro kQ;refine ea ?_;refine sv (Ma pa.out rfl (uH H (Db a) rfl)) ?_;exact kQ.o):p:=e ⟨kQ⟩
def aaf{p q:Prop}(kQ:q)(e:KR q->p:=by
 intro kQ;refine Gb ?_;intro ws I;refine dJ (jb rfl (kb (vs:=[_,_,_,_,_,_]) pa.out (I.wa (i:=1) (n:=6) rfl rfl) rfl) Ub) ?_
 revert ws I
 exact kQ.o):p:=e ⟨kQ⟩
def adp{p q:Prop}(kQ:q)(e:KR q->p:=by
 intro kQ;have N:(sa ns).any (λd=> !Tb d)=false:=P9.2 λd T=>(by unfold sa at T;obtain⟨x,C,rfl⟩:=x'.1 T;have:=h x C;simp[Tb];omega);unfold El;rw[N,R' V'];have h2:=Ko ns 1 V' V';have G:Ww 1 (sa ns)=((min (1*da ns) 4097:Nat):Int):=h2;rw[G]
 revert N h2 G
 exact kQ.o):p:=e ⟨kQ⟩
def ET{p q:Prop}(kQ:q)(e:KR q->p:=by
 intro kQ;replace I:=I.join h3;simp only[I',J'] at I
 revert I
 exact kQ.o):p:=e ⟨kQ⟩
def U2{p q:Prop}(kQ:q)(e:KR q->p:=by
 intro kQ;refine Ga func86 ?_;refine Ib ?_;intro D y I R v I;refine cI ?_;refine ea ?_;refine cI ?_;refine ea ?_;refine sv (eU rfl rfl Z') ?_;refine ea ?_;refine CS rfl rfl V' ?_;rw[K]
 revert D y R v I
 exact kQ.o):p:=e ⟨kQ⟩
def uZ{p q:Prop}(kQ:q)(e:KR q->p:=by
 intro kQ;obtain⟨c,E⟩:=aa (l:=s.data.toList) (k:=k) (by rw[<-td];exact D);have F:=c.toNat_lt;by_cases B:c.toNat<128
 .refine ea ?_;refine⟨⟨k+1,Z',rfl,by rw[ja E,NO,hm];simpa using B,rfl⟩,by show s.size-(k+1)<s.size-k;omega, ?_⟩;exact Sb
 revert c E F B
 exact kQ.o):p:=e ⟨kQ⟩
def QZ{p q:Prop}(kQ:q)(e:KR q->p:=by
 intro kQ;refine ea ?_;refine oR ?_;refine Ib ?_;intro R b I ws I;refine cd I (Jd a _) ?_;intro Y I
 revert R b ws Y I
 exact kQ.o):p:=e ⟨kQ⟩
def xZ{p q:Prop}(kQ:q)(e:KR q->p:=by
 intro kQ;refine ea ?_;refine qh 10 I ?_;refine ub ?_;refine Wi (i) ?_;refine px ?_;refine fk [_,_,_] (λ_ hj=>(((H.ext hj.hp.below).recAt SR.len K).drop 0).take 3) ?_;refine ub ?_;refine Wi (i) ?_;refine px ?_;refine fk [_,_,_] (λ_ hj=>(((H.ext hj.hp.below).recAt SR.len K).drop 3).take 3) ?_;exact kQ.o):p:=e ⟨kQ⟩
def EN{p q:Prop}(kQ:q)(e:KR q->p:=by
 intro kQ;refine ea ?_;refine sv (Ma pa.out rfl (I.Pd (i:=2) rfl (by first|assumption|(simp only[W_];assumption)))) ?_;refine ea ?_;exact kQ.o):p:=e ⟨kQ⟩
def MM{p q:Prop}(kQ:q)(e:KR q->p:=by
 intro kQ;refine ea ?_;refine fS ?_;exact kQ.o):p:=e ⟨kQ⟩
def GZ{p q:Prop}(kQ:q)(e:KR q->p:=by
 intro kQ;refine aaj ?_;refine ub ?_;refine dG (Wi (q) ?_);refine ub ?_;exact kQ.o):p:=e ⟨kQ⟩
def ZN{p q:Prop}(kQ:q)(e:KR q->p:=by
 intro kQ;refine dB [_,_,_,_] ?_;refine Nw [_,_,_,_] ?_;refine xa ?_;intro p_ z;simp only[y',i_,or_false] at z
 revert p_ z
 exact kQ.o):p:=e ⟨kQ⟩
def ae0{p q:Prop}(kQ:q)(e:KR q->p:=by
 intro kQ;refine WC.Xo λa hf=>wp_region_any hm ?_;simp only[Lh,Z_,Y_,W8,M_,S_] at hok;obtain⟨⟨⟨⟨⟨⟨⟨⟨⟨⟨⟨⟨⟨hml,_⟩,hds⟩,hnd⟩,hdN⟩,hrd⟩,htail⟩,hready⟩,hend⟩,hdep⟩,hedge⟩,hns⟩,hflo⟩,hM⟩:=hok;have hfl:=λi hi=>CO (hflo i hi)
 revert a hf hml hds hnd hdN hrd htail hready hend hdep hedge hns hflo hM hfl
 exact kQ.o):p:=e ⟨kQ⟩
def aeo{p q:Prop}(kQ:q)(e:KR q->p:=by
 intro kQ;refine ea ?_;refine rf 5 (λv V=>∃i:Nat,i<=n/\v=wd i/\Hp w [] V) (λv _=>n-(intOf v).toNat) ?_ ?_
 .exact⟨0,N' _,rfl,I⟩
 exact kQ.o):p:=e ⟨kQ⟩
def eO{p q:Prop}(kQ:q)(e:KR q->p:=by
 intro kQ;rw[hds,s8,H9] at hp;obtain⟨⟨x,k⟩,hx,hxe⟩:=hp;rw[List.mem_zipIdx_iff_getElem?] at hx
 revert x k hxe hx
 exact kQ.o):p:=e ⟨kQ⟩
def YZ{p q:Prop}(kQ:q)(e:KR q->p:=by
 intro kQ;refine ea ?_;replace I:=I.sub (L' _ (P' _ j'));refine⟨⟨i+1,Z',rfl,T, ?_,I⟩,by show n-(i+1)<n-i;omega, ?_⟩
 .rw[hq,ja hp] at g;rw[ja C,hq,ja hp,J_];show Du (ts.take q++[p,x])=true;rw[MB,g,b];rfl
 revert I
 exact kQ.o):p:=e ⟨kQ⟩
def aa8{p q:Prop}(kQ:q)(e:KR q->p:=by
 intro kQ;simp only[E8,Prod.mk.injEq] at Y;obtain⟨rfl,rfl⟩:=Y;have M:∃i,P.info? fd.type=some i/\i.size≠0:=by
  unfold Program.cellsOf at E
  cases hi:P.info? fd.type with
  |none=>simp[hi] at E
  |some i=>exact⟨i,rfl,by simpa[hi] using E⟩
 obtain⟨i,hi,N⟩:=M
 revert i hi N
 exact kQ.o):p:=e ⟨kQ⟩
def aer{p q:Prop}(kQ:q)(e:KR q->p:=by
 intro kQ;have J:=SX 9996 s.lo.neg s.lo.neg s.hi.neg s.hi.neg s.lo.Ra s.lo.Ra s.hi.Ra s.hi.Ra s.lo.e s.lo.e s.hi.e s.hi.e w;rw[Il.2 rfl,Il.2 rfl] at J;have h1:(Op.equal 36 (.agg s.cells.toArray) (.agg s.cells.toArray)).run prog w=.ok true w:=J;simp only[execOp,C,hy]
 revert J h1
 exact kQ.o):p:=e ⟨kQ⟩
def jN{p q:Prop}(kQ:q)(e:KR q->p:=by
 intro kQ;refine Sy (ia (cF (db (Va (sr (mI (mI ?_)))))));refine vA ?_;exact kQ.o):p:=e ⟨kQ⟩
def aa5{p q:Prop}(kQ:q)(e:KR q->p:=by
 intro kQ;refine ea ?_;refine Od 11 I ?_;refine Wi (j) ?_;refine px ?_;refine Ym (λ_ hj=>Ab hj.hp.below ((H.recAt FX.len C) 0 _ rfl)) ?_;refine ub ?_;refine Wi (0) ?_;refine px ?_;refine Ym (λ_ hj=>Ab hj.hp.below ((H.recAt FX.len N) 0 _ rfl)) ?_;refine ub ?_;exact kQ.o):p:=e ⟨kQ⟩
def TM{p q:Prop}(kQ:q)(e:KR q->p:=by
 intro kQ;refine sr ?_;refine Ji (ia (qa (cT (db (Va (qa (Pc (sr (mI (aI (ia ?_)))))))))));exact kQ.o):p:=e ⟨kQ⟩
def wV{p q:Prop}(kQ:q)(e:KR q->p:=by
 intro kQ;refine sv (Eb (k:=(n-1-k)) Qa.out pa.size rfl rfl Z' Z') ?_;refine sv (Ma pa.out rfl ((s1.ext I.below).Dl (by assumption))) ?_;exact kQ.o):p:=e ⟨kQ⟩
def adU{p q:Prop}(kQ:q)(e:KR q->p:=by
 intro kQ;simp only[n9,E8,Prod.mk.injEq] at hxe;obtain⟨rfl,rfl⟩:=hxe;exact kQ.o):p:=e ⟨kQ⟩
def iU{p q:Prop}(kQ:q)(e:KR q->p:=by
 intro kQ;refine ea ?_;refine sv (Eb (k:=j) Qa.out pa.size Ij rfl Z' Z') ?_;exact kQ.o):p:=e ⟨kQ⟩
def aae{p q:Prop}(kQ:q)(e:KR q->p:=by
 intro kQ;obtain⟨R,hR⟩:=eJ (f:=λx y=>Gl x.m y.m) C hy;have hzz:∀e∈((X.take i).flatMap λx=>Q.map λy=>Gl x.m y.m)++(Q.take j).map (λy=>Gl x.m y.m),e=0:=λe he=>by
  obtain he|he:=A_.1 he
  .exact hz e he
  exact b e he
 revert R hR hzz
 exact kQ.o):p:=e ⟨kQ⟩
def VV{p q:Prop}(kQ:q)(e:KR q->p:=by
 intro kQ;refine Lb I (i:=0) (vs:=[_]) rfl rfl (Ac rfl) rfl pa.out rfl (by rw[La,Da];omega) rfl ?_;intro ws I;simp only[l'] at I
 revert ws I
 exact kQ.o):p:=e ⟨kQ⟩
def aaY{p q:Prop}(kQ:q)(e:KR q->p:=by
 intro kQ;refine ea ?_;refine Od 9 I ?_;refine Wi (j) ?_;refine px ?_;refine Ym (λ_ hj=>Ab hj.hp.below ((H.recAt PX.len C) 0 _ rfl)) ?_;refine OA ?_;refine Wi (0) ?_;refine px ?_;refine Ym (λ_ hj=>Ab hj.hp.below ((H.recAt PX.len N) 0 _ rfl)) ?_;exact kQ.o):p:=e ⟨kQ⟩
def D3{p q:Prop}(kQ:q)(e:KR q->p:=by
 intro kQ;refine sv (zg rfl rfl) ?_;refine aI (ia (sr (mL (mI (mL (mI ?_))))));refine sv (Cs Qa.out pa.size rfl rfl rfl Z') ?_;refine EF ?_;refine mI ?_;exact kQ.o):p:=e ⟨kQ⟩
def ad7{p q:Prop}(kQ:q)(e:KR q->p:=by
 intro kQ;obtain rfl:i=n:=Z';rw[G' Z'] at I;refine ea ?_
 revert I
 exact kQ.o):p:=e ⟨kQ⟩
def DZ{p q:Prop}(kQ:q)(e:KR q->p:=by
 intro kQ;obtain⟨s,hs,hstab,hog⟩:=hdo i o hok';rw[i'] at hstab hog;have hrdi:=hrd i E;rw[W,hs] at hrdi;simp only[Z_,M_] at hrdi
 revert s hs hstab hog hrdi
 exact kQ.o):p:=e ⟨kQ⟩
def aa6{p q:Prop}(kQ:q)(e:KR q->p:=by
 intro kQ;refine sM ?_;refine ea ?_;refine sv (Ma pa.out rfl ((s1.ext I.below).Dl (by assumption))) ?_;exact kQ.o):p:=e ⟨kQ⟩
def adh{p q:Prop}(kQ:q)(e:KR q->p:=by
 intro kQ;refine IF ?_;refine ea ?_;exact kQ.o):p:=e ⟨kQ⟩
def lM{p q:Prop}(kQ:q)(e:KR q->p:=by
 intro kQ;refine Gb ?_;intro G Z I;refine⟨?_,I.below⟩;unfold bg3
 revert G Z I
 exact kQ.o):p:=e ⟨kQ⟩
def Uv{p q:Prop}(kQ:q)(e:KR q->p:=by
 intro kQ;intro ws I;simp only[l',Z9] at I
 revert ws I
 exact kQ.o):p:=e ⟨kQ⟩
def eT{p q:Prop}(kQ:q)(e:KR q->p:=by
 intro kQ;refine ea ?_;rw[g,h,<-r] at I;refine⟨⟨i+1,Z',rfl,I⟩,by show(n-m/64)-(i+1)<(n-m/64)-i;omega, ?_⟩
 revert I
 exact kQ.o):p:=e ⟨kQ⟩
def mZ{p q:Prop}(kQ:q)(e:KR q->p:=by
 intro kQ;refine ea ?_;refine Od 8 I ?_;refine Wi (i) ?_;refine fk [_,_,_,_] (λ_ hj=>(H.ext hj.hp.below).recAt TR.len K) ?_;refine ub ?_;refine Wi (i) ?_;refine fk [_,_,_,_] (λ_ hj=>(G.ext hj.hp.below).recAt TR.len S) ?_;exact kQ.o):p:=e ⟨kQ⟩
def AV{p q:Prop}(kQ:q)(e:KR q->p:=by
 intro kQ;refine ea ?_;replace I:=I.sub (L' _ (P' _ (P' _ j')))
 revert I
 exact kQ.o):p:=e ⟨kQ⟩
def YQ{p q:Prop}(kQ:q)(e:KR q->p:=by
 intro kQ;simp only[I',J'] at I;replace I:=I.perm (U_ (l₁:=[_,_,_,_]));simp only[I',J'] at I
 revert I
 exact kQ.o):p:=e ⟨kQ⟩
def aeF{p q:Prop}(kQ:q)(e:KR q->p:=by
 intro kQ;refine⟨λ_ _=>trivial, ?_⟩;rw[Y.eval,Lm _ H (λ_ h=>by cases h)];refine⟨λh=>(by cases h), ?_⟩;refine iI (E.mono λe V hR=> ?_);obtain⟨v,rfl,u⟩:=k e V hR;show K (a.put o.dst v) V;rw[T]
 revert v u
 try revert hR
 try revert V
 try revert e
 exact kQ.o):p:=e ⟨kQ⟩
def aeV{p q:Prop}(kQ:q)(e:KR q->p:=by
 intro kQ;obtain rfl:n=0:=by simpa using hln.symm
 show Calls _ _ _ _ λr V=>∃g:PX,se 0 v (oa [⟨Sd v,nR 0⟩]) g/\r=.returned (.tuple #[.agg #[wd g.v,wn g.A g.n g.c],wd 0])/\Hp w [g.row] V;exact kQ.o):p:=e ⟨kQ⟩
def CZ{p q:Prop}(kQ:q)(e:KR q->p:=by
 intro kQ;have g:(18446744073709551616:Nat)=2^64:=by decide
 have a:(256:Nat)=2^8:=by decide
 have hp:256^i=18446744073709551616^(i/8)*2^(i % 8*8):=(by rw[g,a,<-W9,<-W9,<-Q_];congr 1;omega)
 revert g a hp
 exact kQ.o):p:=e ⟨kQ⟩
def Y1{p q:Prop}(kQ:q)(e:KR q->p:=by
 intro kQ;refine ea ?_;refine Od 6 I ?_;refine Ba (i:=3) (λU Z hj hR=>Lr (show U 20=Value.int _ _ from hR.1) (show U 22=Value.int _ _ from hR.2.1) Z' Z' Z') ?_;refine ub ?_;exact kQ.o):p:=e ⟨kQ⟩
def aal{p q:Prop}(kQ:q)(e:KR q->p:=by
 intro kQ;refine sr (mI (Sk ?_));refine im I 0 ?_;refine mI ?_;refine su ?_;refine sv (Eb (k:=m) Qa.out pa.size rfl rfl Z' Z') ?_;refine sv (Ma pa.out rfl ((g _ _ I).fP A)) ?_;refine ea ?_;exact kQ.o):p:=e ⟨kQ⟩
def JS{p q:Prop}(kQ:q)(e:KR q->p:=by
 intro kQ;refine ea ?_;refine sv (Ua (vs:=[_,_]) pa.out rfl ((hr.ext I.below).recAt FX.len C) rfl) ?_;exact kQ.o):p:=e ⟨kQ⟩
def KM{p q:Prop}(kQ:q)(e:KR q->p:=by
 intro kQ;refine dn ?_;intro W I;refine sv (V1 rfl rfl (by first|assumption|omega) (by first|assumption|omega)) ?_
 revert W I
 exact kQ.o):p:=e ⟨kQ⟩
def N0{p q:Prop}(kQ:q)(e:KR q->p:=by
 intro kQ;have h1:(Op.equal 30 (.agg #[ww s,wt a,wd e]) (.agg #[ww s',wt a',wd e'])).run prog w=.ok r w:=by rw[<-H];exact vK 9997 s s' a a' e e' w
 simp only[execOp,C,hy]
 revert h1
 exact kQ.o):p:=e ⟨kQ⟩
def ad5{p q:Prop}(kQ:q)(e:KR q->p:=by
 intro kQ;rw[hds,s8,H9];refine⟨(some d,i), ?_,rfl⟩;rw[List.mem_zipIdx_iff_getElem?];exact kQ.o):p:=e ⟨kQ⟩
def aab{p q:Prop}(kQ:q)(e:KR q->p:=by
 intro kQ;refine ud (i:=15) rfl (λU Z hj hR=>(show U 41=Value.bool _ from hR.2.1)) (λU Z hj hR=>Ha fi (na (show U 43=Value.agg (List.toArray _) from hR.1) Oa)) (λZ hj=>r _) ?_;refine ub ?_;exact kQ.o):p:=e ⟨kQ⟩
def LM{p q:Prop}(kQ:q)(e:KR q->p:=by
 intro kQ;refine ea ?_;refine sv (Ua (vs:=[_,_]) pa.out rfl ((H.ext I.below).recAt PX.len C) rfl) ?_;exact kQ.o):p:=e ⟨kQ⟩
def gN{p q:Prop}(kQ:q)(e:KR q->p:=by
 intro kQ;refine ea ?_;refine sv (Ua (vs:=[_,_]) pa.out rfl ((H.ext I.below).recAt FX.len C) rfl) ?_;exact kQ.o):p:=e ⟨kQ⟩
def aec{p q:Prop}(kQ:q)(e:KR q->p:=by
 intro kQ;refine ea ?_;refine⟨⟨q+1,Z',rfl,λt S=> ?_,I⟩,by show x.m.size-(q+1)<x.m.size-q;omega, ?_⟩
 .rw[ja he] at S;obtain S|S:=A_.1 S
  .exact hex t S
  rw[k'.1 S];omega
 exact kQ.o):p:=e ⟨kQ⟩
def aeT{p q:Prop}(kQ:q)(e:KR q->p:=by
 intro kQ;have S:=of_decide_eq_false h;have h1:(a.Ra.size:Int)<=8:=Z';have h2: -60<=a.e:=Z';have G:a.e<=60:=Z'
 revert S h1 h2 G
 exact kQ.o):p:=e ⟨kQ⟩
def aaz{p q:Prop}(kQ:q)(e:KR q->p:=by
 intro kQ;have S:i<L.size:=by rw[g.ls,hnn];omega
 have hed':∀o',l.toArray[i]?=some o'->∀e∈o'.after,Region.binds .any e=true->L.getD e.on false=true:=λo' K=>(by rw[W] at K;injection K with K;subst K;exact hed)
 revert S hed'
 exact kQ.o):p:=e ⟨kQ⟩
def aeN{p q:Prop}(kQ:q)(e:KR q->p:=by
 intro kQ;refine Jb rfl rfl V' (Bg Qa.out pa.size rfl rfl (l:=1) rfl Z' Z') ?_;refine ea ?_;exact kQ.o):p:=e ⟨kQ⟩
def Q0{p q:Prop}(kQ:q)(e:KR q->p:=by
 intro kQ;rintro ⟨i,h1,h2,G⟩;by_cases hex:∃i,i<k/\i<m/\L.getD i false=false
 .exact ihk hex
 revert i h1 h2 G hex
 exact kQ.o):p:=e ⟨kQ⟩
def adR{p q:Prop}(kQ:q)(e:KR q->p:=by
 intro kQ;refine bw ?_;intro z G I;refine Gb ?_;intro ws I
 revert z G ws I
 exact kQ.o):p:=e ⟨kQ⟩
def cN{p q:Prop}(kQ:q)(e:KR q->p:=by
 intro kQ;rw[W] at B;simp only[A6] at B;rw[B,bf (hd1 d B),Q' rfl]
 revert B
 exact kQ.o):p:=e ⟨kQ⟩
def aan{p q:Prop}(kQ:q)(e:KR q->p:=by
 intro kQ;refine ea ?_;refine sv (Ua (vs:=[_,_,_]) pa.out rfl ((I.Wc (f:=TR.cells) (x:=t) (l:=G) (i:=1) rfl TR.len V' S).drop 1) rfl) ?_;refine cd I (z _) ?_;intro Q I;refine ea ?_
 revert Q I
 exact kQ.o):p:=e ⟨kQ⟩
def aep{p q:Prop}(kQ:q)(e:KR q->p:=by
 intro kQ;refine ea ?_;replace I:=I.sub (L' _ (P' _ (P' _ (P' _ j'))))
 revert I
 exact kQ.o):p:=e ⟨kQ⟩
def l3{p q:Prop}(kQ:q)(e:KR q->p:=by
 intro kQ;refine mT ?_;refine ui ?_;refine ui ?_;exact kQ.o):p:=e ⟨kQ⟩
def o0{p q:Prop}(kQ:q)(e:KR q->p:=by
 intro kQ;rw[a] at E;refine ea ?_;refine sv (Ua (vs:=[_,_,_,_]) pa.out rfl ((H.ext I.below).recAt TR.len o) rfl) ?_;refine SM ?_;rintro d b ⟨rfl,M⟩;try revert M
 try revert b
 try revert d
 try revert E
 exact kQ.o):p:=e ⟨kQ⟩
def SI{p q:Prop}(kQ:q)(e:KR q->p:=by
 intro kQ;have I:=Hp.start w;have m:=J.Aa SR.len V'
 revert I m
 exact kQ.o):p:=e ⟨kQ⟩
def aa2{p q:Prop}(kQ:q)(e:KR q->p:=by
 intro kQ;rw[a] at E;refine ea ?_;refine sv (Ua (vs:=[_,_,_]) pa.out rfl ((H.ext I.below).recAt NR.len o) rfl) ?_;refine SM ?_;rintro d b ⟨rfl,M⟩;try revert M
 try revert b
 try revert d
 try revert E
 exact kQ.o):p:=e ⟨kQ⟩
def N2{p q:Prop}(kQ:q)(e:KR q->p:=by
 intro kQ;refine Oh (Mf (Mf (gk (Va (sr (mS ?_))))));refine sv (Mv Qa.out rfl) ?_;refine mI ?_;refine sv (YE rfl rfl) ?_;refine ea ?_;rw[G' (by rw[<-td];omega)] at hm
 revert hm
 exact kQ.o):p:=e ⟨kQ⟩
def XZ{p q:Prop}(kQ:q)(e:KR q->p:=by
 intro kQ;refine Ga func284 ?_;refine ea ?_;refine Gd I (OB a _ Z') rfl ?_;intro t I;rw[j];refine ea ?_;refine Gd I (Mn b _ _ Z') rfl ?_;intro D I;rw[n];refine ea ?_
 revert t D I
 exact kQ.o):p:=e ⟨kQ⟩
def aaC{p q:Prop}(kQ:q)(e:KR q->p:=by
 intro kQ;simp only[I',J'] at I;replace I:=show Hp w (.row z.A z.n z.c 72 4 (la TR.cells z.ts)::_) _ from I;have zln:z.ts.length=z.n:=(I.ka (i:=0) rfl).Aa TR.len V'
 revert I zln
 exact kQ.o):p:=e ⟨kQ⟩
def B0{p q:Prop}(kQ:q)(e:KR q->p:=by
 intro kQ;refine Sy (ia (cT (sr (mI ?_))));refine sv (Xp (s:=16) (m:=65536) rfl rfl V' V') ?_;refine aI (ia (mb (mI ?_)));refine al (aI (ia (qa (sr (mI ?_)))));exact kQ.o):p:=e ⟨kQ⟩
def J2{p q:Prop}(kQ:q)(e:KR q->p:=by
 intro kQ;replace I:=Q.hp;refine Be ?_;refine ea ?_;refine⟨⟨j+1,Z',rfl,by rw[ja C,S8,X,Q8,M8,m' Z'];rfl,I⟩,by show n-(j+1)<n-j;omega, ?_⟩
 revert I
 exact kQ.o):p:=e ⟨kQ⟩
def aaq{p q:Prop}(kQ:q)(e:KR q->p:=by
 intro kQ;rw[d] at E;refine ea ?_;refine sv (Ua (vs:=[_,_]) pa.out rfl ((H.ext I.below).recAt FX.len o) rfl) ?_;refine SM ?_;rintro f e ⟨rfl,M⟩;try revert M
 try revert e
 try revert f
 try revert E
 exact kQ.o):p:=e ⟨kQ⟩
def Z1{p q:Prop}(kQ:q)(e:KR q->p:=by
 intro kQ;refine sv (Eb (k:=z) Qa.out pa.size G rfl Z' Z') ?_;refine sv (Ua (vs:=[_,_,_]) pa.out rfl ((sC.ext I.below).recAt NR.len hx) rfl) ?_;refine Gb ?_;intro ws I
 revert ws I
 exact kQ.o):p:=e ⟨kQ⟩
def aaH{p q:Prop}(kQ:q)(e:KR q->p:=by
 intro kQ;refine ea ?_;replace I:=I.sub (L' _ (P' _ j'));refine⟨⟨i+1,Z',rfl,T,by rw[ja C,h0];rfl,I⟩,by show n-(i+1)<n-i;omega, ?_⟩
 revert I
 exact kQ.o):p:=e ⟨kQ⟩
def FZ{p q:Prop}(kQ:q)(e:KR q->p:=by
 intro kQ;have h1:z.natAbs=y.natAbs*2^j:=by rw[<-f,H8,S7];rfl
 have h2:y.natAbs*1<=y.natAbs*2^j:=O_ _ (L_ Z');have G:Wa y.natAbs<=8*a.size:=Uc Z';rw[Ki]
 revert h1 h2 G
 exact kQ.o):p:=e ⟨kQ⟩
def u3{p q:Prop}(kQ:q)(e:KR q->p:=by
 intro kQ;refine sr ?_;refine ik I ?_;intro T q I;refine ia (qa (sr (mI ?_)));refine Ji (ia (cF (db (Va (sr (mI ?_))))));refine vA ?_
 revert T q I
 exact kQ.o):p:=e ⟨kQ⟩
def aaa{p q:Prop}(kQ:q)(e:KR q->p:=by
 intro kQ;have l:Builtin.nextslicecap (0+m) 0*i.bytes<=281474976710656:=growslice_fits Z' (by rw[G,i'];exact a);have h:((0+m:Nat):Int)<=9223372036854775807:=by unfold maxLen at X;omega
 revert l h
 exact kQ.o):p:=e ⟨kQ⟩
def zZ{p q:Prop}(kQ:q)(e:KR q->p:=by
 intro kQ;have hnl:L.ns.length=L.n:=by unfold FX.ns;rw[B'];exact hln
 have F:GJ L bits=if bits<0\/((2^L.n:Nat):Int)<=bits then 1 else 0:=by unfold GJ;rw[R' (λc=>c J)]
 revert hnl F
 exact kQ.o):p:=e ⟨kQ⟩
def EZ{p q:Prop}(kQ:q)(e:KR q->p:=by
 intro kQ;refine Ga func233 ?_;refine Gb ?_;intro D B I;refine cd I (u _) ?_;intro E I
 revert D B E I
 exact kQ.o):p:=e ⟨kQ⟩
def aeS{p q:Prop}(kQ:q)(e:KR q->p:=by
 intro kQ;refine Gb ?_;intro D y I;refine xR ?_;intro R v I;refine mI ?_
 revert D y R v I
 exact kQ.o):p:=e ⟨kQ⟩
def P0{p q:Prop}(kQ:q)(e:KR q->p:=by
 intro kQ;refine ea ?_;refine cd I (p _ (S.hp I) I.below) ?_;intro G I;refine Ib ?_;intro b8 w8 I ws I;refine Od 3 I ?_;refine dC (λ_ hj=>o _ (S.hp hj.hp)) ?_;refine ub ?_
 revert G b8 w8 ws I
 exact kQ.o):p:=e ⟨kQ⟩
def aay{p q:Prop}(kQ:q)(e:KR q->p:=by
 intro kQ;refine ea ?_;refine cd I (o _ (S.hp I)) ?_;intro E I;refine ea ?_;refine cd I (T _ (S.hp I)) ?_;intro G I;refine ea ?_;replace I:=I.sub (L' _ j')
 revert E G I
 exact kQ.o):p:=e ⟨kQ⟩
def aau{p q:Prop}(kQ:q)(e:KR q->p:=by
 intro kQ;have p1:=n i d hi h1;have p2:=n j d hj h2;have e1:=((Oj (O:=O) (λi=>wd i) ds d hnd).1 i p1).symm.trans ((Oj (O:=O) (λi=>wd i) ds d hnd).1 j p2)
 revert p1 p2 e1
 exact kQ.o):p:=e ⟨kQ⟩
def n3{p q:Prop}(kQ:q)(e:KR q->p:=by
 intro kQ;refine dn ?_;intro W I;refine ea ?_;refine cd I (t _) ?_;intro q I;refine ea ?_;refine⟨⟨i+1,_,Z',rfl,o.symm,b,I⟩,by show n-(i+1)<n-i;omega, ?_⟩
 revert W q I
 exact kQ.o):p:=e ⟨kQ⟩
def W0{p q:Prop}(kQ:q)(e:KR q->p:=by
 intro kQ;refine sv (Fh (b:=4294967296) rfl rfl) ?_;refine mI ?_;refine sv (zg rfl rfl) ?_;refine ea ?_;refine sv (Fh rfl rfl) ?_;refine sv (Rs rfl rfl Z') ?_;exact kQ.o):p:=e ⟨kQ⟩
def aah{p q:Prop}(kQ:q)(e:KR q->p:=by
 intro kQ;refine ea ?_;refine sv (dK rfl rfl Z' (by first|assumption|omega)) ?_;refine ea ?_;refine sv (Fh rfl rfl) ?_;refine sv (Rs rfl rfl Z') ?_;refine ea ?_;exact kQ.o):p:=e ⟨kQ⟩
def abe{p q:Prop}(kQ:q)(e:KR q->p:=by
 intro kQ;refine ea ?_;refine cdC I (yt a _ Z') rfl ?_;intro d I;rw[j];refine ea ?_;refine cdC I (Sq b _ _ Z') rfl ?_;intro E I;rw[n];refine ea ?_
 revert d E I
 exact kQ.o):p:=e ⟨kQ⟩
def aeD{p q:Prop}(kQ:q)(e:KR q->p:=by
 intro kQ;have e:a i=V:=by rw[z i Z',Ex]
 refine⟨a,λj hj=>by rw[z j Z',Ql _ _ Z'],⟨⟨?_, ?_⟩,b⟩,L⟩
 .rw[e];exact h1
 revert e
 exact kQ.o):p:=e ⟨kQ⟩
open Go.RowKit
abbrev Rf:=Nat->Value
def vd(O:Rf)(d:Nat)(v:Value):Rf:=λi=>bif Nat.beq i d then v else O i
def ev(O:Rf):Operand->Value
 |.tmp t=>O t
 |.const v=>v
 |.global g=>.pointer (some ⟨g,0,none⟩)
 |.func f=>.func (.func f) #[] #[]
structure Bf(N:Nat)(D:List Deferred)(a:Act)(O:Rf):Prop where
 nd:a.defers=D
 sz:a.tmps.size=N
 at_:∀i,a.tmps.getD i undef=O i
abbrev Fits(N:Nat)(a:Act)(O:Rf):Prop:=Bf N [] a O
def Bf.eval{N:Nat}{D:List Deferred}{a:Act}{O:Rf}(h:Bf N D a O):a.eval=ev O:=by
 funext x
 cases x with
 |tmp t=>exact h.at_ t
 |_=>rfl
def bA(O:Rf)(d:Nat)(v:Value):vd O d v d=v:=by simp[vd]
def si(O:Rf){d i:Nat}(h:i≠d)(v:Value):vd O d v i=O i:=by
 have F:Nat.beq i d=false:=by
  cases F:Nat.beq i d
  .rfl
  exact absurd (Nat.eq_of_beq_eq_true F) h
 simp only[vd,F,cond_false]
def Bf.put{N:Nat}{D:List Deferred}{a:Act}{O:Rf}(h:Bf N D a O){d:Nat}(T:d<N)(v:Value):Bf N D (a.put (some d) v) (vd O d v):=by
 refine⟨h.nd,by simp[Act.put,h.sz],λi=> ?_⟩;by_cases hi:i=d
 .subst hi;rw[bA];simp[Act.put,h.sz,T]
 rw[si O hi,<-h.at_ i];have:d≠i:=λe=>hi e.symm;simp[Act.put,Array.getElem?_setIfInBounds_ne this]
abbrev Kq:=Exit->Rf->World->Prop
def Ze(N:Nat)(D:List Deferred)(Q:Kq):Exit->Act->World->Prop:=λe a w=>∃O,Bf N D a O/\Q e O w
abbrev lift(N:Nat)(Q:Kq):Exit->Act->World->Prop:=Ze N [] Q
structure Mode where
 round:Option Nat:=none
 D:List Deferred:=[]
 any:Bool:=false
abbrev Mode.plain:Mode:={}
def FW(ro:Option Nat):Fence:={ Fence.wide with round:=ro }
structure WC(ro:Mode)(P:Program)(N:Nat)(c:Code)(Q:Kq)(O:Rf)(w:World):Prop where
 Ao:ro.any=false->∀a,Bf N ro.D a O->c.wp P (Ze N ro.D Q) a w
 Hl:∀a,Bf N ro.D a O->∀n,c.wpIn (FW ro.round) n P (Ze N ro.D Q) a w
structure WL(ro:Mode)(P:Program)(N:Nat)(ops:Array Oper)(Q:Kq)(l:List Oper)(O:Rf)(w:World):Prop where
 Ao:ro.any=false->∀a,Bf N ro.D a O->wpList P ops (Ze N ro.D Q) l a w
 Hl:∀a,Bf N ro.D a O->∀n,wpListIn (FW ro.round) n P ops (Ze N ro.D Q) l a w
def Xd(next:Rf->World->Prop)(Q:Kq):Kq
 |.normal,O,w=>next O w
 |e,O,w=>Q e O w
def Fs(id:Nat)(Q:Kq):Kq
 |.exit b,O,w=>if b=id then Q .normal O w else Q (.exit b) O w
 |e,O,w=>Q e O w
variable {P:Program}{N:Nat}{Q:Kq}{O:Rf}{w:World}
def WC.Xo{D:List Deferred}{c:Code}(h:∀a,Bf N D a O->c.wp P (Ze N D Q) a w):WC ⟨none,D,false⟩ P N c Q O w:=⟨λ_=>h,λa Y _=>wpIn_wide.2 (h a Y)⟩
def WC.out{D:List Deferred}{c:Code}(h:WC ⟨none,D,false⟩ P N c Q O w):∀a,Bf N D a O->c.wp P (Ze N D Q) a w:=h.Ao rfl
def HV{r:Option Nat}{D:List Deferred}{c:Code}(h:WC ⟨r,D,false⟩ P N c Q O w):WC ⟨r,D,true⟩ P N c Q O w:=⟨λh=>(by cases h),h.Hl⟩
def WL.out{D:List Deferred}{ops:Array Oper}{l:List Oper}(h:WL ⟨none,D,false⟩ P N ops Q l O w):∀a,Bf N D a O->wpList P ops (Ze N D Q) l a w:=h.Ao rfl
def FB{D:List Deferred}{Q b:Kq}(h:∀e O w,Q e O w->b e O w)(e:Exit)(a:Act)(w:World):Ze N D Q e a w->Ze N D b e a w:=
 λ⟨O,Y,R⟩=>⟨O,Y,h _ _ _ R⟩
variable {ro:Mode}
def WC.mono{c:Code}{b:Kq}(h:WC ro P N c Q O w)(R:∀e O w,Q e O w->b e O w):WC ro P N c b O w:=
 ⟨λhm a Y=>wp_mono (h.Ao hm a Y) (FB R),λa Y n=>wpIn_mono (h.Hl a Y n) (FB R)⟩
def qa{x y:Code}(h:WC ro P N x (Xd (λO w=>WC ro P N y Q O w) Q) O w):WC ro P N (.seq x y) Q O w:=
 ⟨λhm a Y=>wp_seq (wp_mono (h.Ao hm a Y) λe a' V ⟨ρ',T,R⟩=>by
  cases e with
  |normal=>exact R.Ao hm a' T
  |_=>exact⟨ρ',T,R⟩),
 λa Y n=>wpIn_seq (wpIn_mono (h.Hl a Y n) λe a' V ⟨ρ',T,R⟩=>by
  cases e with
  |normal=>exact R.Hl a' T n
  |_=>exact⟨ρ',T,R⟩)⟩
def db(h:Q .normal O w):WC ro P N .skip Q O w:=⟨λ_ _ Y=>wp_skip ⟨O,Y,h⟩,λ_ Y _=>wpIn_skip ⟨O,Y,h⟩⟩
def je(h:Q .ret O w):WC ro P N .ret Q O w:=⟨λ_ _ Y=>wp_ret ⟨O,Y,h⟩,λ_ Y _=>wpIn_ret ⟨O,Y,h⟩⟩
def Oh{id:Nat}(h:Q (.exit id) O w):WC ro P N (.exit id) Q O w:=⟨λ_ _ Y=>wp_exit ⟨O,Y,h⟩,λ_ Y _=>wpIn_exit ⟨O,Y,h⟩⟩
def Pc{id:Nat}{c:Code}(h:WC ro P N c (Fs id Q) O w):WC ro P N (.block id c) Q O w:=
 have key:∀(D:List Deferred) e a' V,Ze N D (Fs id Q) e a' V->Exit.inBlock id (Ze N D Q) e a' V:=λD e a' V ⟨ρ',T,R⟩=>by
  cases e with
  |exit b=>
   by_cases j:b=id
   .simp only[Fs,j,if_true] at R;simp only[Exit.inBlock,j,if_true];exact⟨ρ',T,R⟩
   simp only[Fs,j,if_false] at R;simp only[Exit.inBlock,j,if_false];exact⟨ρ',T,R⟩
  |_=>exact⟨ρ',T,R⟩
 ⟨λhm a Y=>wp_block (wp_mono (h.Ao hm a Y) (key _)),λa Y n=>wpIn_block (wpIn_mono (h.Hl a Y n) (key _))⟩
def nO{c:Operand}{x y:Code}(E:ev O c=ww true)(h:WC ro P N x Q O w):WC ro P N (.cond c x y) Q O w:=
 ⟨λhm a Y=>wp_cond_true (by rw[Y.eval];exact E) (h.Ao hm a Y),λa Y n=>wpIn_cond_true (by rw[Y.eval];exact E) (h.Hl a Y n)⟩
def oP{c:Operand}{x y:Code}(E:ev O c=ww false)(h:WC ro P N y Q O w):WC ro P N (.cond c x y) Q O w:=
 ⟨λhm a Y=>wp_cond_false (by rw[Y.eval];exact E) (h.Ao hm a Y),λa Y n=>wpIn_cond_false (by rw[Y.eval];exact E) (h.Hl a Y n)⟩
def mb{id:Nat}{l:List Oper}(h:WL ro P N l.toArray Q l O w):WC ro P N (.region id l.toArray false) Q O w:=
 ⟨λhm a Y=>wp_region_lit (h.Ao hm a Y),λa Y n=>wpIn_region_lit (h.Hl a Y n)⟩
def Va{next:Rf->World->Prop}(h:next O w):Xd next Q .normal O w:=h
def Ad{next:Rf->World->Prop}(h:Q .ret O w):Xd next Q .ret O w:=h
def Mf{next:Rf->World->Prop}{id:Nat}(h:Q (.exit id) O w):Xd next Q (.exit id) O w:=h
def Dp{id:Nat}(h:Q .normal O w):Fs id Q .normal O w:=h
def bk{id:Nat}(h:Q .ret O w):Fs id Q .ret O w:=h
def gk{id:Nat}(h:Q .normal O w):Fs id Q (.exit id) O w:=by simpa[Fs] using h
def abX{id b:Nat}(E:b≠id)(h:Q (.exit b) O w):Fs id Q (.exit b) O w:=by simpa[Fs,E] using h
def mask(mods:t3)(ρ' O:Rf):Rf:=λi=>bif mods.contains i then ρ' i else O i
def Gg(mods:t3)(U O:Rf):Prop:=∀i,mods.contains i=false->U i=O i
def Sf(mods:t3)(ρ' O:Rf):Gg mods (mask mods ρ' O) O:=λi hi=>by simp only[mask,hi,cond_false]
def qd{mods:t3}{U O:Rf}{d:Nat}{v:Value}(T:mods.contains d=true)(h:Gg mods U O):Gg mods (vd U d v) O:=λi hi=>by
 rw[si U (λe=>by rw[e,T] at hi;cases hi)];exact h i hi
def Re{mods a:t3}{ρ' U O:Rf}(hm:(a.all λi=>mods.contains i)=true)(h:Gg mods U O):Gg mods (mask a ρ' U) O:=λi hi=>by
 have h2:a.contains i=false:=by
  cases E:a.contains i with
  |false=>rfl
  |true=>
   have:=M_.1 hm i (by simpa using E);rw[this] at hi;cases hi
 simp only[mask,h2,cond_false];exact h i hi
def T'{p:Prop}(h:p:=by repeat (first|exact Sf _ _ _|refine qd rfl ?_|refine Re rfl ?_)):p:=h
def S'{p:Prop}(h:p:=by(repeat (first|exact Sf _ _ _|refine qd rfl ?_|refine Re rfl ?_));exact λ_ _=>rfl):p:=h
def th{mods:t3}{U O:Rf}(h:Gg mods U O):mask mods U O=U:=by
 funext i;simp only[mask]
 cases E:mods.contains i with
 |true=>rfl
 |false=>simpa using(h i E).symm
def Hf(O:Rf)(d:Nat):vd O d (O d)=O:=by
 funext i;by_cases h:i=d
 .subst h;rw[bA]
 rw[si O h]
def Rt{c:Code}(I:Rf->World->Prop)(X:Rf->World->Nat)(J:I O w) (round:∀O w,I O w->WC ro P N c (Xd (λρ' V=>I ρ' V/\X ρ' V<X O w) Q) O w):WC ro P N (.loop c) Q O w:=by
 refine⟨λhm a Y=> ?_,λa Y n=> ?_⟩
 .refine wp_loop (λa w=>∃O,Bf N ro.D a O/\I O w) (λa w=>X (λi=>a.tmps.getD i undef) w) ⟨O,Y,J⟩ ?_;rintro a w ⟨O,Y,hi⟩;refine wp_mono ((round O w hi).Ao hm a Y) ?_;exact adB
 refine wpIn_loop (λa w=>∃O,Bf N ro.D a O/\I O w) (λa w=>X (λi=>a.tmps.getD i undef) w) ⟨O,Y,J⟩ ?_;rintro a w ⟨O,Y,hi⟩;refine wpIn_mono ((round O w hi).Hl a Y n) ?_;exact adB
def rU{c:Code}(mods:t3)(I:World->Prop)(X:World->Nat)(J:I  w) (round:∀ρ' V,I  V->WC ro P N c (Xd (λK q=>I  q/\X  q<X  V/\Gg mods K O) Q) (mask mods ρ' O) V):WC ro P N (.loop c) Q O w:=
 Rt (λU Z=>I  Z/\Gg mods U O) (λU Z=>X  Z) ⟨J,λ_ _=>rfl⟩ λU Z ⟨hi,M⟩=>by
  have h:=round U  Z hi;rw[th M] at h;exact h.mono λe K q R=>by
   cases e with
   |normal=>exact⟨⟨R.1,R.2.2⟩,R.2.1⟩
   |_=>exact R
def WU{c:Code}(mods:t3)(s0:Nat)(I:Value->World->Prop)(X:Value->World->Nat)(J:I (O s0) w) (round:∀ρ' v0 V,I v0 V->WC ro P N c (Xd (λK q=>I (K s0) q/\X (K s0) q<X v0 V/\Gg mods K O) Q) (vd (mask mods ρ' O) s0 v0) V):WC ro P N (.loop c) Q O w:=
 Rt (λU Z=>I (U s0) Z/\Gg mods U O) (λU Z=>X (U s0) Z) ⟨J,λ_ _=>rfl⟩ λU Z ⟨hi,M⟩=>by
  have h:=round U (U s0) Z hi;rw[th M,Hf] at h;exact h.mono λe K q R=>by
   cases e with
   |normal=>exact⟨⟨R.1,R.2.2⟩,R.2.1⟩
   |_=>exact R
def xU{c:Code}(mods:t3)(s0 s1:Nat)(I:Value->Value->World->Prop)(X:Value->Value->World->Nat)(J:I (O s0) (O s1) w) (round:∀ρ' v0 v1 V,I v0 v1 V->WC ro P N c (Xd (λK q=>I (K s0) (K s1) q/\X (K s0) (K s1) q<X v0 v1 V/\Gg mods K O) Q) (vd (vd (mask mods ρ' O) s0 v0) s1 v1) V):WC ro P N (.loop c) Q O w:=
 Rt (λU Z=>I (U s0) (U s1) Z/\Gg mods U O) (λU Z=>X (U s0) (U s1) Z) ⟨J,λ_ _=>rfl⟩ λU Z ⟨hi,M⟩=>by
  have h:=round U (U s0) (U s1) Z hi;rw[th M,Hf,Hf] at h;exact h.mono λe K q R=>by
   cases e with
   |normal=>exact⟨⟨R.1,R.2.2⟩,R.2.1⟩
   |_=>exact R
def Wk{c:Code}(mods:t3)(s0 s1 s2:Nat)(I:Value->Value->Value->World->Prop)(X:Value->Value->Value->World->Nat)(J:I (O s0) (O s1) (O s2) w) (round:∀ρ' v0 v1 v2 V,I v0 v1 v2 V->WC ro P N c (Xd (λK q=>I (K s0) (K s1) (K s2) q/\X (K s0) (K s1) (K s2) q<X v0 v1 v2 V/\Gg mods K O) Q) (vd (vd (vd (mask mods ρ' O) s0 v0) s1 v1) s2 v2) V):WC ro P N (.loop c) Q O w:=
 Rt (λU Z=>I (U s0) (U s1) (U s2) Z/\Gg mods U O) (λU Z=>X (U s0) (U s1) (U s2) Z) ⟨J,λ_ _=>rfl⟩ λU Z ⟨hi,M⟩=>by
  have h:=round U (U s0) (U s1) (U s2) Z hi;rw[th M,Hf,Hf,Hf] at h;exact h.mono λe K q R=>by
   cases e with
   |normal=>exact⟨⟨R.1,R.2.2⟩,R.2.1⟩
   |_=>exact R
def qU{c:Code}(mods:t3)(s0 s1 s2 s3:Nat)(I:Value->Value->Value->Value->World->Prop)(X:Value->Value->Value->Value->World->Nat)(J:I (O s0) (O s1) (O s2) (O s3) w) (round:∀ρ' v0 v1 v2 y V,I v0 v1 v2 y V->WC ro P N c (Xd (λK q=>I (K s0) (K s1) (K s2) (K s3) q/\X (K s0) (K s1) (K s2) (K s3) q<X v0 v1 v2 y V/\Gg mods K O) Q) (vd (vd (vd (vd (mask mods ρ' O) s0 v0) s1 v1) s2 v2) s3 y) V):WC ro P N (.loop c) Q O w:=
 Rt (λU Z=>I (U s0) (U s1) (U s2) (U s3) Z/\Gg mods U O) (λU Z=>X (U s0) (U s1) (U s2) (U s3) Z) ⟨J,λ_ _=>rfl⟩ λU Z ⟨hi,M⟩=>by
  have h:=round U (U s0) (U s1) (U s2) (U s3) Z hi;rw[th M,Hf,Hf,Hf,Hf] at h;exact h.mono λe K q R=>by
   cases e with
   |normal=>exact⟨⟨R.1,R.2.2⟩,R.2.1⟩
   |_=>exact R
inductive UR(P:Program)(O:Rf)(w:World):ResultVar->Value->Prop
 |tmp (t:Tmp) {v:Value} (h:O t=v):UR P O w (.tmp t) v
 |cell (p:Tmp) (t:TypeId) {a:Addr}{v:Value} (hp:O p=.pointer (some a)) (h:(loadVar t a).run P w=.ok v w):UR P O w (.cell p t) v
def mi(P:Program)(O:Rf)(w:World):List ResultVar->List Value->Prop
 |[],[]=>True
 |r::rs,v::vs=>UR P O w r v/\mi P O w rs vs
 |_,_=>False
def ZC:List Value->Value
 |[v]=>v
 |vs=>.tuple vs.toArray
def Bo(P:Program)(fn:Func)(R:Ending->World->Prop):Kq:=λe O w=>
 (e=.normal\/e=.ret)/\∃v,(∀tmps:Array Value,(∀i,tmps.getD i undef=O i)->(results fn tmps).run P w=.ok v w)/\R (.returned v) w
def DM{P:Program}{O:Rf}{w:World}{f:ResultVar->Sem Value}(h1:∀t,(f (.tmp t)).run P w=.ok (O t) w) (h2:∀p t a v,O p=.pointer (some a)->(loadVar t a).run P w=.ok v w->(f (.cell p t)).run P w=.ok v w):∀(rs:List ResultVar)(vs:List Value),mi P O w rs vs->(rs.mapM f).run P w=.ok vs w
 |[],[],_=>by simp
 |[],_::_,h=>h.elim
 |_::_,[],h=>h.elim
 |r::rs,v::vs,h=>by
  have W:=DM h1 h2 rs vs h.2;obtain⟨G,_⟩:=h;rw[List.mapM_cons]
  cases G with
  |tmp t A=>rw[Sem.run_bind,h1,Result.andThen_ok,Sem.run_bind,W,Result.andThen_ok,Sem.run_pure,A]
  |cell p t hp Q=>rw[Sem.run_bind,h2 _ _ _ _ hp Q,Result.andThen_ok,Sem.run_bind,W,Result.andThen_ok,Sem.run_pure]
def Rl{P:Program}{fn:Func}{R:Ending->World->Prop}{O:Rf}{w:World}{rs:List ResultVar}{vs:List Value}{e:Exit}(he:e=.normal\/e=.ret)(H:fn.results=rs.toArray) (A:mi P O w rs vs)(h:R (.returned (ZC vs)) w):Bo P fn R e O w:=by
 refine⟨he,ZC vs,λtmps S=> ?_,h⟩;unfold results;rw[H,Sem.run_bind,List.mapM_toArray,Sem.run_map,DM (O:=O) (λt=>by simp[S]) (λp t a v hp Q=>by simp[S,hp,asAddr,Q]) rs vs A];simp only[Result.andThen_ok]
 match vs with
 |[]=>simp[ZC]
 |[v]=>simp[ZC]
 |_::_::_=>simp[ZC]
def Ub{P:Program}{O:Rf}{w:World}:mi P O w [] []:=trivial
def Dc{P:Program}{O:Rf}{w:World}{t:Tmp}{v:Value}{rs:List ResultVar}{vs:List Value}(h:O t=v)(k:mi P O w rs vs):mi P O w (.tmp t::rs) (v::vs):=⟨.tmp t h,k⟩
def jb{P:Program}{O:Rf}{w:World}{p:Tmp}{t:TypeId}{a:Addr}{v:Value}{rs:List ResultVar}{vs:List Value}(hp:O p=.pointer (some a))(h:(loadVar t a).run P w=.ok v w)(k:mi P O w rs vs):mi P O w (.cell p t::rs) (v::vs):=⟨.cell p t hp h,k⟩
def agz{P:Program}{fn:Func}{R:Ending->World->Prop}{O:Rf}{w:World}{t:Tmp}{e:Exit}{v:Value}(he:e=.normal\/e=.ret)(H:fn.results= #[.tmp t])(A:O t=v)(h:R (.returned v) w):Bo P fn R e O w:=
 Rl he H (Dc A Ub) h
def afV{P:Program}{fn:Func}{R:Ending->World->Prop}{O:Rf}{w:World}{t u:Tmp}{e:Exit}{v x:Value}(he:e=.normal\/e=.ret)(H:fn.results= #[.tmp t,.tmp u])(A:O t=v)(C:O u=x)(h:R (.returned (.tuple #[v,x])) w):Bo P fn R e O w:=
 Rl he H (Dc A (Dc C Ub)) h
def afI{P:Program}{fn:Func}{R:Ending->World->Prop}{O:Rf}{w:World}{t u s:Tmp}{e:Exit}{v x y:Value}(he:e=.normal\/e=.ret)(H:fn.results= #[.tmp t,.tmp u,.tmp s])(A:O t=v)(C:O u=x)(hy:O s=y)(h:R (.returned (.tuple #[v,x,y])) w):Bo P fn R e O w:=
 Rl he H (Dc A (Dc C (Dc hy Ub))) h
def bX{P:Program}{fn:Func}{R:Ending->World->Prop}{O:Rf}{w:World}{e:Exit}(he:e=.normal\/e=.ret)(H:fn.results= #[])(h:R (.returned (.tuple #[])) w):Bo P fn R e O w:=
 Rl he H Ub h
def adl{P:Program}{fn:Func}{R:Ending->World->Prop}{O:Rf}{w:World}{r:ResultVar}{e:Exit}{v:Value}(he:e=.normal\/e=.ret)(H:fn.results= #[r])(h1:mi P O w [r] [v])(h:R (.returned v) w):Bo P fn R e O w:=
 Rl he H h1 h
def aeG{P:Program}{fn:Func}{R:Ending->World->Prop}{O:Rf}{w:World}{r s:ResultVar}{e:Exit}{v x:Value}(he:e=.normal\/e=.ret)(H:fn.results= #[r,s])(h1:mi P O w [r,s] [v,x])(h:R (.returned (.tuple #[v,x])) w):Bo P fn R e O w:=
 Rl he H h1 h
def ae5{P:Program}{fn:Func}{R:Ending->World->Prop}{O:Rf}{w:World}{r s t:ResultVar}{e:Exit}{v x y:Value}(he:e=.normal\/e=.ret)(H:fn.results= #[r,s,t])(h1:mi P O w [r,s,t] [v,x,y])(h:R (.returned (.tuple #[v,x,y])) w):Bo P fn R e O w:=
 Rl he H h1 h
def fG(l:List Value):Rf:=λi=>l.getD i undef
def bV{P:Program}{f:FuncId}{fn:Func}{c:Code}{N:Nat}{l:List Value}{w:World}{R:Ending->World->Prop} (Y:P.funcs[f]?=some fn)(F:fn.body=some c)(B:fn.ntmps=N)(M:l.length<=N) (h:WC .plain P N c (Bo P fn R) (fG l) w):Calls P f l.toArray w R:=by
 refine calls_of_wp Y F ?_;refine wp_mono (h.out _ ⟨rfl,by simp[B];omega,λi=> ?_⟩) ?_
 .exact acC
 rintro e a V ⟨ρ',T,he,v,H,hR⟩;obtain rfl|rfl:=he<;>exact⟨T.nd,v,H _ T.at_,hR⟩
def Lm{f:Operand->Value}{o:Oper}{x:Next}{V:World}(ro:Option Nat)(h:(execOp f o).run P w=.ok x V)(C:∀d,x≠.defer d):(o.semAt ro f).run P w=.ok x V:=by
 cases X:o.op with
 |defer c=>
  exfalso;unfold execOp at h;rw[X] at h;simp only[Sem.run_bind] at h
  cases h2:(resolve f c o.type).run P w with
  |ok v q=>
   rw[h2] at h;simp at h;exact C _ h.1.symm
  |halt e q=>
   rw[h2] at h;simp[Result.andThen] at h
 |_=>rw[Oper.semAt_eq _ _ _ (by rw[X];intro c E;cases E)];exact h
def iI{M:Option Nat}{n:Nat}{f:FuncId}{args:Array Value}{R:Ending->World->Prop}(h:Calls P f args w R):CallsIn (FW M) n P f args w R:=(callsIn_wide (n:=n)).2 h
variable {ops:Array Oper}
def Ti(h:Q .normal O w):WL ro P N ops Q [] O w:=⟨λ_ _ Y=>wpList_nil ⟨O,Y,h⟩,λ_ Y _=>wpListIn_nil ⟨O,Y,h⟩⟩
def ia{next:Rf->World->Prop}{b:Kq}(h:next O w):WL ro P N ops (Xd next b) [] O w:=Ti h
variable {rest:List Oper}
def Jb{o:Oper}{d:Nat}{v:Value}{V:World}(s:o.guard=none)(T:o.dst=some d)(L:d<N) (H:(execOp (ev O) o).run P w=.ok (.value v) V)(k:WL ro P N ops Q rest (vd O d v) V):WL ro P N ops Q (o::rest) O w:=
 ⟨λhm a Y=>wpList_plain s λK y=>by
  unfold Oper.wp;rw[Y.eval,H];show K (a.put o.dst v) V;rw[T];exact y _ _ (k.Ao hm _ (Y.put L v)),
 λa Y n=>wpListIn_plain s λK y=>by
  refine⟨λ_ _=>trivial, ?_⟩;rw[Y.eval,Lm _ H (λ_ h=>by cases h)];show K (a.put o.dst v) V;rw[T];exact y _ _ (k.Hl _ (Y.put L v) n)⟩
def vE{o:Oper}{V:World}(s:o.guard=none)(T:o.dst=none) (H:(execOp (ev O) o).run P w=.ok .skip V)(k:WL ro P N ops Q rest O V):WL ro P N ops Q (o::rest) O w:=
 ⟨λhm a Y=>wpList_plain s λK y=>by
  unfold Oper.wp;rw[Y.eval,H];show K (a.put o.dst undef) V;rw[T];exact y _ _ (k.Ao hm _ Y),
 λa Y n=>wpListIn_plain s λK y=>by
  refine⟨λ_ _=>trivial, ?_⟩;rw[Y.eval,Lm _ H (λ_ h=>by cases h)];show K (a.put o.dst undef) V;rw[T];exact y _ _ (k.Hl _ Y n)⟩
theorem pG{o:Oper}{d:Nat}{f:FuncId}{args:Array Value}{Z:World}{R:Ending->World->Prop}(s:o.guard=none)(T:o.dst=some d)(L:d<N) (H:(execOp (ev O) o).run P w=.ok (.enter f args) Z)(E:Calls P f args Z R) (k:∀e V,R e V->∃v,e=.returned v/\WL ro P N ops Q rest (vd O d v) V):WL ro P N ops Q (o::rest) O w:=
 ⟨λhm a Y=>wpList_plain s λK y=>by
  unfold Oper.wp;rw[Y.eval,H];show Calls P f args Z _;refine E.mono λe V hR=> ?_;obtain⟨v,rfl,u⟩:=k e V hR;show K (a.put o.dst v) V;rw[T];exact y _ _ (u.Ao hm _ (Y.put L v)),
 λa Y n=>wpListIn_plain s λK y=>by
  refine aeF ?_;(unhygienic intros)
  exact y _ _ (u.Hl _ (Y.put L v) n)⟩
def Fc{d:Option Nat}{op:Op}{ty:TypeId}{pos:String}{af:Array Edge}{j g:Nat}{b:Bool} (hj:(ops[j]?).bind (·.dst)=some g)(A:O g=ww b)(k:WL ro P N ops Q (⟨d,op,ty,pos,af,none⟩::rest) O w):
  WL ro P N ops Q (⟨d,op,ty,pos,af,some (j,b)⟩::rest) O w:=
 have J:∀D a,Bf N D a O->Region.wanted ⟨d,op,ty,pos,af,some (j,b)⟩ (yielded ops a.tmps)=true:=λD a Y=>by
  have h2:=Y.at_ g;rw[A,K9] at h2
  cases G:a.tmps[g]? with
  |none=>rw[G] at h2;cases h2
  |some x=>
   rw[G] at h2;simp only[F9] at h2;subst h2;simp[Region.wanted,yielded,hj,G]
 ⟨λhm a Y=>by
  have h2:=k.Ao hm a Y;unfold wpList at h2 |-;rw[Q' (J _ a Y)];rw[Q' (by simp[Region.wanted])] at h2;exact h2,
 λa Y n=>by
  have h2:=k.Hl a Y n;unfold wpListIn at h2 |-;rw[Q' (J _ a Y)];rw[Q' (by simp[Region.wanted])] at h2;exact h2⟩
def Hh{d:Nat}{op:Op}{ty:TypeId}{pos:String}{af:Array Edge}{j g:Nat}{b c:Bool}(L:d<N) (hj:(ops[j]?).bind (·.dst)=some g)(A:O g=ww c)(F:c≠b)(k:WL ro P N ops Q rest (vd O d undef) w):
  WL ro P N ops Q (⟨some d,op,ty,pos,af,some (j,b)⟩::rest) O w:=
 have J:∀D a,Bf N D a O->Region.wanted ⟨some d,op,ty,pos,af,some (j,b)⟩ (yielded ops a.tmps)=false:=λD a Y=>by
  have h2:=Y.at_ g;rw[A,K9] at h2
  cases G:a.tmps[g]? with
  |none=>rw[G] at h2;cases h2
  |some x=>
   rw[G] at h2;simp only[F9] at h2;subst h2;simp[Region.wanted,yielded,hj,G,F]
 ⟨λhm a Y=>by
  unfold wpList;rw[J _ a Y];exact k.Ao hm _ (Y.put L undef),
 λa Y n=>by
  unfold wpListIn;rw[J _ a Y];exact⟨λ_ _=>trivial,k.Hl _ (Y.put L undef) n⟩⟩
def nb(v:Value)(b:Bool):Bool:=match v with|.bool c=>c !=b|_=>true
def Ip{d:Nat}{op:Op}{ty:TypeId}{pos:String}{af:Array Edge}{j g:Nat}{b:Bool}(L:d<N) (hj:(ops[j]?).bind (·.dst)=some g)(F:nb (O g) b=true)(k:WL ro P N ops Q rest (vd O d undef) w):
  WL ro P N ops Q (⟨some d,op,ty,pos,af,some (j,b)⟩::rest) O w:=by
 cases A:O g with
 |bool c=>
  rw[A] at F;exact Hh L hj A (by simpa[nb] using F) k
 |_=>
  have J:∀D a,Bf N D a O->Region.wanted ⟨some d,op,ty,pos,af,some (j,b)⟩ (yielded ops a.tmps)=false:=λD a Y=>by
   have h2:=Y.at_ g;rw[A,K9] at h2
   cases G:a.tmps[g]? with
   |none=>simp[Region.wanted,yielded,hj,G]
   |some x=>
    rw[G] at h2;simp only[F9] at h2;subst h2;simp[Region.wanted,yielded,hj,G]
  refine⟨λhm a Y=> ?_,λa Y n=> ?_⟩
  .unfold wpList;rw[J _ a Y];exact k.Ao hm _ (Y.put L undef)
  unfold wpListIn;rw[J _ a Y];exact⟨λ_ _=>trivial,k.Hl _ (Y.put L undef) n⟩
variable {d:Option Nat}{ty:TypeId}{pos:String}{af:Array Edge}{g:Option (Nat×Bool)}
def Yd{x:Operand}{v:Value}(C:ev O x=v):(execOp (ev O) ⟨d,.move x,ty,pos,af,g⟩).run P w=.ok (.value v) w:=by simp[execOp,C]
def Sj{x:Operand}{v:Value}(C:ev O x=v):(execOp (ev O) ⟨d,.assign x,ty,pos,af,g⟩).run P w=.ok (.value v) w:=by simp[execOp,C]
def yG{c a b:Operand}{v:Value}(E:ev O c=ww true)(C:ev O a=v):(execOp (ev O) ⟨d,.pick c a b,ty,pos,af,g⟩).run P w=.ok (.value v) w:=by simp[execOp,asBool,E,C]
def XI{c a b:Operand}{v:Value}(E:ev O c=ww false)(C:ev O b=v):(execOp (ev O) ⟨d,.pick c a b,ty,pos,af,g⟩).run P w=.ok (.value v) w:=by simp[execOp,asBool,E,C]
variable {t u:TypeId}{x y:Operand}{k:IntKind}{a b:Int}
def aaD(C:ev O x=.int k a)(hy:ev O y=.int k b):(execOp (ev O) ⟨d,.binOp .add t x y u,ty,pos,af,g⟩).run P w=.ok (.value (.int k (k.wrap (a+b)))) w:=by
 simp[execOp,C,hy,eqGuard,binOp,Op.intArith]
def aaJ(C:ev O x=.int k a)(hy:ev O y=.int k b):(execOp (ev O) ⟨d,.binOp .sub t x y u,ty,pos,af,g⟩).run P w=.ok (.value (.int k (k.wrap (a-b)))) w:=by
 simp[execOp,C,hy,eqGuard,binOp,Op.intArith]
def TZ(C:ev O x=.int k a)(hy:ev O y=.int k b):(execOp (ev O) ⟨d,.binOp .mul t x y u,ty,pos,af,g⟩).run P w=.ok (.value (.int k (k.wrap (a*b)))) w:=by
 simp[execOp,C,hy,eqGuard,binOp,Op.intArith]
def bU(C:ev O x=.int k a)(hy:ev O y=.int k b)(F:b≠0):(execOp (ev O) ⟨d,.binOp .quo t x y u,ty,pos,af,g⟩).run P w=.ok (.value (.int k (k.wrap (a.tdiv b)))) w:=by
 simp[execOp,C,hy,eqGuard,binOp,Op.intDiv,F]
def gR(C:ev O x=.int k a)(hy:ev O y=.int k b)(F:b≠0):(execOp (ev O) ⟨d,.binOp .rem t x y u,ty,pos,af,g⟩).run P w=.ok (.value (.int k (a.tmod b))) w:=by
 simp[execOp,C,hy,eqGuard,binOp,Op.intDiv,F]
def C1(C:ev O x=.int k a)(hy:ev O y=.int k b):(execOp (ev O) ⟨d,.binOp .and t x y u,ty,pos,af,g⟩).run P w=.ok (.value (.int k (k.wrap (BitVec.ofInt k.bits a &&& BitVec.ofInt k.bits b).toNat))) w:=by
 simp[execOp,C,hy,eqGuard,binOp,Op.intBits]
def af4(C:ev O x=.int k a)(hy:ev O y=.int k b):(execOp (ev O) ⟨d,.binOp .or t x y u,ty,pos,af,g⟩).run P w=.ok (.value (.int k (k.wrap (BitVec.ofInt k.bits a|||BitVec.ofInt k.bits b).toNat))) w:=by
 simp[execOp,C,hy,eqGuard,binOp,Op.intBits]
def OM{c:IntKind}(C:ev O x=.int k a)(hy:ev O y=.int c b)(F:0<=b):(execOp (ev O) ⟨d,.binOp .shl t x y u,ty,pos,af,g⟩).run P w=.ok (.value (.int k (k.wrap (a*2^(min b.toNat k.bits))))) w:=by
 simp[execOp,C,hy,eqGuard,binOp,Op.shift,show ¬b<0 by omega]
def eU{c:IntKind}(C:ev O x=.int k a)(hy:ev O y=.int c b)(F:0<=b):(execOp (ev O) ⟨d,.binOp .shr t x y u,ty,pos,af,g⟩).run P w=.ok (.value (.int k (a.fdiv (2^(min b.toNat k.bits))))) w:=by
 simp[execOp,C,hy,eqGuard,binOp,Op.shift,show ¬b<0 by omega]
def RF{op:BinOp}:(eqGuard op t x y (.int k a) (.int k b)).run P w=.ok () w:=by
 unfold eqGuard;cases op<;>simp
def Pp{op:BinOp}{r:Bool}(C:ev O x=.int k a)(hy:ev O y=.int k b)(X:(Op.intCmp op a b).run P w=.ok (ww r) w)(E:op=.eql\/op=.neq\/op=.lss\/op=.leq\/op=.gtr\/op=.geq):(execOp (ev O) ⟨d,.binOp op t x y u,ty,pos,af,g⟩).run P w=.ok (.value (ww r)) w:=by
 obtain h|h|h|h|h|h:=E<;>subst h<;>simp[execOp,C,hy,RF,binOp,X]
def AX(C:ev O x=.int k a)(hy:ev O y=.int k b)(h:a<b):(execOp (ev O) ⟨d,.binOp .lss t x y u,ty,pos,af,g⟩).run P w=.ok (.value (ww true)) w:=
 Pp C hy (by simp[Op.intCmp,h]) (by simp)
def nX(C:ev O x=.int k a)(hy:ev O y=.int k b)(h:¬a<b):(execOp (ev O) ⟨d,.binOp .lss t x y u,ty,pos,af,g⟩).run P w=.ok (.value (ww false)) w:=
 Pp C hy (by simp[Op.intCmp];omega) (by simp)
def OW(C:ev O x=.int k a)(hy:ev O y=.int k b)(h:a<=b):(execOp (ev O) ⟨d,.binOp .leq t x y u,ty,pos,af,g⟩).run P w=.ok (.value (ww true)) w:=
 Pp C hy (by simp[Op.intCmp,h]) (by simp)
def ZY(C:ev O x=.int k a)(hy:ev O y=.int k b)(h:¬a<=b):(execOp (ev O) ⟨d,.binOp .leq t x y u,ty,pos,af,g⟩).run P w=.ok (.value (ww false)) w:=
 Pp C hy (by simp[Op.intCmp];omega) (by simp)
def uX(C:ev O x=.int k a)(hy:ev O y=.int k b)(h:b<a):(execOp (ev O) ⟨d,.binOp .gtr t x y u,ty,pos,af,g⟩).run P w=.ok (.value (ww true)) w:=
 Pp C hy (by simp[Op.intCmp,h]) (by simp)
def uW(C:ev O x=.int k a)(hy:ev O y=.int k b)(h:¬b<a):(execOp (ev O) ⟨d,.binOp .gtr t x y u,ty,pos,af,g⟩).run P w=.ok (.value (ww false)) w:=
 Pp C hy (by simp[Op.intCmp];omega) (by simp)
def fY(C:ev O x=.int k a)(hy:ev O y=.int k b)(h:b<=a):(execOp (ev O) ⟨d,.binOp .geq t x y u,ty,pos,af,g⟩).run P w=.ok (.value (ww true)) w:=
 Pp C hy (by simp[Op.intCmp,h]) (by simp)
def wY(C:ev O x=.int k a)(hy:ev O y=.int k b)(h:¬b<=a):(execOp (ev O) ⟨d,.binOp .geq t x y u,ty,pos,af,g⟩).run P w=.ok (.value (ww false)) w:=
 Pp C hy (by simp[Op.intCmp];omega) (by simp)
def ZW(C:ev O x=.int k a)(hy:ev O y=.int k b)(h:a≠b):(execOp (ev O) ⟨d,.binOp .neq t x y u,ty,pos,af,g⟩).run P w=.ok (.value (ww true)) w:=
 Pp C hy (by simp[Op.intCmp,h]) (by simp)
def wX(C:ev O x=.int k a)(hy:ev O y=.int k b)(h:a=b):(execOp (ev O) ⟨d,.binOp .neq t x y u,ty,pos,af,g⟩).run P w=.ok (.value (ww false)) w:=
 Pp C hy (by simp[Op.intCmp,h]) (by simp)
def YE(C:ev O x=.int k a)(hy:ev O y=.int k b):(execOp (ev O) ⟨d,.binOp .eql t x y u,ty,pos,af,g⟩).run P w=.ok (.value (ww (decide (a=b)))) w:=
 Pp C hy (by simp[Op.intCmp];rw[Bool.eq_iff_iff];simp) (by simp)
def F1(C:ev O x=.int k a):(execOp (ev O) ⟨d,.unOp .neg t x,ty,pos,af,g⟩).run P w=.ok (.value (.int k (k.wrap (-a)))) w:=by
 simp[execOp,C,Op.unary,Op.intArith]
def ck{n:Int}(h1: -9223372036854775808<=n)(h2:n<=9223372036854775807):IntKind.i64.wrap n=n:=IntWalk.i64_in n ⟨h1,h2⟩
def HR(C:ev O x=wd a)(hy:ev O y=wd b)(h1: -9223372036854775808<=a+b)(h2:a+b<=9223372036854775807):(execOp (ev O) ⟨d,.binOp .add t x y u,ty,pos,af,g⟩).run P w=.ok (.value (wd (a+b))) w:=by
 rw[aaD C hy,ck h1 h2]
def CR(C:ev O x=wd a)(hy:ev O y=wd b)(h1: -9223372036854775808<=a-b)(h2:a-b<=9223372036854775807):(execOp (ev O) ⟨d,.binOp .sub t x y u,ty,pos,af,g⟩).run P w=.ok (.value (wd (a-b))) w:=by
 rw[aaJ C hy,ck h1 h2]
def QS(C:ev O x=wd a)(hy:ev O y=wd b)(h1: -9223372036854775808<=a*b)(h2:a*b<=9223372036854775807):(execOp (ev O) ⟨d,.binOp .mul t x y u,ty,pos,af,g⟩).run P w=.ok (.value (wd (a*b))) w:=by
 rw[TZ C hy,ck h1 h2]
def Cn(C:ev O x=wd a)(h1: -9223372036854775808<= -a)(h2: -a<=9223372036854775807):(execOp (ev O) ⟨d,.unOp .neg t x,ty,pos,af,g⟩).run P w=.ok (.value (wd (-a))) w:=by
 rw[F1 C,ck h1 h2]
def Lr(C:ev O x=wd a)(hy:ev O y=wd b)(M:0<=a)(F:0<b)(h2:a<=9223372036854775807):(execOp (ev O) ⟨d,.binOp .quo t x y u,ty,pos,af,g⟩).run P w=.ok (.value (wd (a/b))) w:=by
 have G:a/b<=a:=Int.ediv_le_self b M;have z:0<=a/b:=K6 M Z';rw[bU C hy Z',V6 M,ck Z' Z']
def Oo(C:ev O x=wd a)(hy:ev O y=wd b)(M:0<=a)(F:0<b):(execOp (ev O) ⟨d,.binOp .rem t x y u,ty,pos,af,g⟩).run P w=.ok (.value (wd (a % b))) w:=by
 rw[gR C hy Z',Int.tmod_eq_emod_of_nonneg M]
def K1{t:TypeId}{x:Operand}{b:Bool}(C:ev O x=ww b):(execOp (ev O) ⟨d,.unOp .not t x,ty,pos,af,g⟩).run P w=.ok (.value (ww !b)) w:=by
 simp[execOp,C,Op.unary]
variable {a b:Bool}
def FE(n:Nat)(S:P.underlying t=some .bool):(Op.equalIn (n+1) t (ww a) (ww b)).run P w=.ok (a==b) w:=by
 simp[Op.equalIn,run_underlying S]
def Wz(S:P.underlying t=some .bool):(Op.equal t (ww a) (ww b)).run P w=.ok (a==b) w:=FE 9999 S
def xA(S:P.underlying t=some .bool):(binOp .eql t (ww a) (ww b)).run P w=.ok (ww (a==b)) w:=by
 simp only[binOp];simp[Wz S]
def Xy(S:P.underlying t=some .bool):(binOp .neq t (ww a) (ww b)).run P w=.ok (ww (a !=b)) w:=by
 simp only[binOp];simp[Wz S,bne]
def Rx(S:P.underlying t=some .bool)(C:ev O x=ww a)(hy:ev O y=ww b):(execOp (ev O) ⟨d,.binOp .eql t x y u,ty,pos,af,g⟩).run P w=.ok (.value (ww (a==b))) w:=by
 simp only[execOp,C,hy,eqGuard];simp[xA S]
def ki(S:P.underlying t=some .bool)(C:ev O x=ww a)(hy:ev O y=ww b):(execOp (ev O) ⟨d,.binOp .neq t x y u,ty,pos,af,g⟩).run P w=.ok (.value (ww (a !=b))) w:=by
 simp only[execOp,C,hy,eqGuard];simp[Xy S]
variable {a b:t7}
def iG{op:BinOp}:(eqGuard op t x y (wt a) (wt b)).run P w=.ok () w:=by
 unfold eqGuard;cases op<;>simp
def IB{op:BinOp}{r:Value}(C:ev O x=wt a)(hy:ev O y=wt b)(K:op≠.shl/\op≠.shr)(X:(Op.stringOp op a b).run P w=.ok r w):(execOp (ev O) ⟨d,.binOp op t x y u,ty,pos,af,g⟩).run P w=.ok (.value r) w:=by
 cases op<;>simp_all [execOp,iG,binOp]
def SC(C:ev O x=wt a)(hy:ev O y=wt b):(execOp (ev O) ⟨d,.binOp .eql t x y u,ty,pos,af,g⟩).run P w=.ok (.value (ww (a.toList==b.toList))) w:=
 IB C hy (by simp) (by simp[Op.stringOp])
def mD(C:ev O x=wt a)(hy:ev O y=wt b):(execOp (ev O) ⟨d,.binOp .neq t x y u,ty,pos,af,g⟩).run P w=.ok (.value (ww !(a.toList==b.toList))) w:=
 IB C hy (by simp) (by simp[Op.stringOp])
def vV{a b:t7}:(a.toList==b.toList)=decide (a=b):=by
 have key:∀s:t7,s.toList=s.data.toList:=λs=>(by refine aff ?_;intro this;simpa using this (s.size-0) 0 [] rfl);rw[Bool.eq_iff_iff,W8,Y_,key,key];constructor
 .intro h;cases a;cases b;congr 1;exact C7 h
 intro h;rw[h]
def yi(C:ev O x=wt a)(hy:ev O y=wt b)(h:a=b):(execOp (ev O) ⟨d,.binOp .eql t x y u,ty,pos,af,g⟩).run P w=.ok (.value (ww true)) w:=by
 rw[SC C hy,vV];simp[h]
def ti(C:ev O x=wt a)(hy:ev O y=wt b)(h:¬a=b):(execOp (ev O) ⟨d,.binOp .eql t x y u,ty,pos,af,g⟩).run P w=.ok (.value (ww false)) w:=by
 rw[SC C hy,vV];simp[h]
def xi(C:ev O x=wt a)(hy:ev O y=wt b)(h:¬a=b):(execOp (ev O) ⟨d,.binOp .neq t x y u,ty,pos,af,g⟩).run P w=.ok (.value (ww true)) w:=by
 rw[mD C hy,vV];simp[h]
def Bi(C:ev O x=wt a)(hy:ev O y=wt b)(h:a=b):(execOp (ev O) ⟨d,.binOp .neq t x y u,ty,pos,af,g⟩).run P w=.ok (.value (ww false)) w:=by
 rw[mD C hy,vV];simp[h]
def jv(C:ev O x=wt a)(hy:ev O y=wt b):(execOp (ev O) ⟨d,.binOp .lss t x y u,ty,pos,af,g⟩).run P w=.ok (.value (ww (Op.bytesLess a.toList b.toList))) w:=
 IB C hy (by simp) (by simp[Op.stringOp])
def PO(C:ev O x=wt a)(hy:ev O y=wt b):(execOp (ev O) ⟨d,.binOp .gtr t x y u,ty,pos,af,g⟩).run P w=.ok (.value (ww !(Op.bytesLess a.toList b.toList||a.toList==b.toList))) w:=
 IB C hy (by simp) (by simp[Op.stringOp])
def Nq(C:ev O x=wt a)(hy:ev O y=wt b):(execOp (ev O) ⟨d,.binOp .geq t x y u,ty,pos,af,g⟩).run P w=.ok (.value (ww !(Op.bytesLess a.toList b.toList))) w:=
 IB C hy (by simp) (by simp[Op.stringOp])
def J0(C:ev O x=wt a)(hy:ev O y=wt b)(h:a.size+b.size<=9223372036854775807):(execOp (ev O) ⟨d,.binOp .add t x y u,ty,pos,af,g⟩).run P w=.ok (.value (wt (a++b))) w:=
 IB C hy (by simp) (by
  have:¬((a.size+b.size:Nat):Int)>IntKind.i64.max:=by
   have:IntKind.i64.max=9223372036854775807:=by decide
   omega
  simp only[Op.stringOp,R' this];simp)
def Cl{s t:TypeId}{x:Operand}{k c:IntKind}{a:Int}{b:TypeDesc}(K:P.underlying s=some b)(S:P.underlying t=some (.int k))(C:ev O x=.int c a):(execOp (ev O) ⟨d,.convert s t x,ty,pos,af,g⟩).run P w=.ok (.value (.int k (k.wrap a))) w:=by
 simp[execOp,C,convert,run_underlying K,run_underlying S,Conv.intToInt]
def jh{s t:TypeId}{x:Operand}{c:IntKind}{a:Int}{b:TypeDesc}(K:P.underlying s=some b)(S:P.underlying t=some (.int .i64))(C:ev O x=.int c a)(h1: -9223372036854775808<=a)(h2:a<=9223372036854775807):(execOp (ev O) ⟨d,.convert s t x,ty,pos,af,g⟩).run P w=.ok (.value (wd a)) w:=by
 rw[Cl K S C,ck h1 h2]
def bc{x:Operand}{i:Nat}{vs:List Value}{v:Value}(C:ev O x=.tuple vs.toArray)(A:vs[i]?=some v):(execOp (ev O) ⟨d,.extract x i,ty,pos,af,g⟩).run P w=.ok (.value v) w:=by
 simp[execOp,C,Instr.extract,A]
def qw(O:Rf):List Operand->List Value
 |[]=>[]
 |x::l=>ev O x::qw O l
def yq{O:Rf}(args:Array Operand){vs:List Value}(h:qw O args.toList=vs):args.map (ev O)=vs.toArray:=by
 have h1:∀l:List Operand,l.map (ev O)=qw O l:=by
  intro l
  induction l with
  |nil=>rfl
  |cons a l W=>simp only[T_,W];rfl
 subst h;rw[<-h1];apply C7;simp
def pn{fn:Fn}{first captured:Array Operand}{fs cs:List Value}(Y:qw O first.toList=fs)(E:qw O captured.toList=cs):(execOp (ev O) ⟨d,.makeFunc fn first captured,ty,pos,af,g⟩).run P w=.ok (.value (.func fn fs.toArray cs.toArray)) w:=by
 simp[execOp,yq _ Y,yq _ E,Instr.makeFunc]
def Sc{i:Nat}{k:IntKind}{n:Int}(h:O i=.int k n):O i=.int k n:=h
def cm{i:Nat}{b:Bool}(h:O i=ww b):O i=ww b:=h
def BC{i:Nat}{s:t7}(h:O i=wt s):O i=wt s:=h
def vP{i:Nat}{A:t6}{n c:Nat}(h:O i=wn A n c):O i=wn A n c:=h
def Ac{x:Operand}{k:IntKind}{n:Int}(h:ev O x=.int k n):ev O x=.int k n:=h
def mq{x:Operand}{b:Bool}(h:ev O x=ww b):ev O x=ww b:=h
def zD{x:Operand}{s:t7}(h:ev O x=wt s):ev O x=wt s:=h
def tu{x:Operand}{A:t6}{n c:Nat}(h:ev O x=wn A n c):ev O x=wn A n c:=h
def sy{x:Operand}{a:Addr}(h:ev O x=.pointer (some a)):ev O x=.pointer (some a):=h
def Xe{x:Operand}{l:List Value}(h:ev O x=.agg l.toArray):ev O x=.agg l.toArray:=h
def acj{x:Operand}{l:List Value}(h:ev O x=.tuple l.toArray):ev O x=.tuple l.toArray:=h
def Aq{x:Operand}{f:Fn}{a b:List Value}(h:ev O x=.func f a.toArray b.toArray):ev O x=.func f a.toArray b.toArray:=h
def ix{x:Operand}(h:ev O x=.nilFunc):ev O x=.nilFunc:=h
def Mv{x:Operand}{t:TypeId}{s:t7}(S:P.underlying t=some .string)(C:ev O x=wt s):(execOp (ev O) ⟨d,.call ⟨.builtin .len, #[x], #[t]⟩,ty,pos,af,g⟩).run P w=.ok (.value (wd s.size)) w:=by
 simp[execOp,resolve,invoke,builtin,Builtin.len_,C,run_underlying S,goInt]
def pH{x:Operand}{t e:TypeId}{A:Option Addr}{n c:Nat}(S:P.underlying t=some (.slice e))(C:ev O x=.slice A n c):(execOp (ev O) ⟨d,.call ⟨.builtin .len, #[x], #[t]⟩,ty,pos,af,g⟩).run P w=.ok (.value (.int .i64 n)) w:=by
 simp[execOp,resolve,invoke,builtin,Builtin.len_,C,run_underlying S,goInt]
def adn{x y:Operand}{ts:Array TypeId}{k:IntKind}{a b:Int}(C:ev O x=.int k a)(hy:ev O y=.int k b):(execOp (ev O) ⟨d,.call ⟨.builtin .min, #[x,y],ts⟩,ty,pos,af,g⟩).run P w=.ok (.value (.int k (if b<a then b else a))) w:=by
 simp[execOp,resolve,invoke,builtin,Builtin.min_,Builtin.min2,C,hy,List.foldlM]
def DS{x y:Operand}{ts:Array TypeId}{k:IntKind}{a b:Int}(C:ev O x=.int k a)(hy:ev O y=.int k b):(execOp (ev O) ⟨d,.call ⟨.builtin .max, #[x,y],ts⟩,ty,pos,af,g⟩).run P w=.ok (.value (.int k (if b>a then b else a))) w:=by
 simp[execOp,resolve,invoke,builtin,Builtin.max_,Builtin.max2,C,hy,List.foldlM]
def ng{t:TypeId}{x i:Operand}{s:t7}{n:Int}{k:IntKind}{c:UInt8}(S:P.underlying t=some .string)(C:ev O x=wt s)(hi:ev O i=.int k n) (J:0<=n)(E:s.data.toList[n.toNat]?=some c):(execOp (ev O) ⟨d,.index t x i,ty,pos,af,g⟩).run P w=.ok (.value (.int .u8 c.toNat)) w:=by
 have K:s[n.toNat]?=some c:=by
  rw[<-E];obtain⟨h1,h2⟩:=z'.1 E;have G:n.toNat<s.size:=by simpa using h1
  rw[getElem?_pos s n.toNat G,getElem?_pos s.data.toList n.toNat h1];rfl
 simp[execOp,C,hi,Instr.index,asIntOf,run_underlying S,J,K]
def jw{t:TypeId}{x:Operand}{lo hi:Option Operand}{s:ByteArray}{l h:Nat}(S:P.underlying t=some .string)(C:ev O x=.string s) (p:match lo with|none=>l=0|some o=>∃(k:IntKind)(n:Int),ev O o=.int k n/\n=l)(f:match hi with|none=>h=s.size|some o=>∃(k:IntKind)(n:Int),ev O o=.int k n/\n=h) (h1:l<=h)(h2:h<=s.size):(execOp (ev O) ⟨d,.slice t x lo hi none,ty,pos,af,g⟩).run P w=.ok (.value (.string (s.extract l h))) w:=by
 have N:(l:Int)<=h:=Z';have L:(h:Int)<=s.size:=Z'
 cases lo<;>cases hi<;>simp only[] at p f
 .subst p;subst f;simp[execOp,C,Instr.sliceAt,Instr.slice,run_underlying S,Instr.sliceBounds]
 .obtain⟨k2,r,u,rfl⟩:=f;subst p;simp[execOp,C,Instr.sliceAt,Instr.slice,run_underlying S,Instr.sliceBounds,Instr.sliceBound,asIntOf,u,h2]
 .obtain⟨k2,r,u,rfl⟩:=p;subst f;simp[execOp,C,Instr.sliceAt,Instr.slice,run_underlying S,Instr.sliceBounds,Instr.sliceBound,asIntOf,u,h1]
 obtain⟨k2,r,u,rfl⟩:=f;obtain⟨F,q,W,rfl⟩:=p;simp[execOp,C,Instr.sliceAt,Instr.slice,run_underlying S,Instr.sliceBounds,Instr.sliceBound,asIntOf,u,W,h1,h2]
def Th{t e:TypeId}{x:Operand}{lo hi:Option Operand}{A:Option Addr}{n c l h sz:Nat}(S:P.underlying t=some (.slice e))(M:(P.info? e).map (·.size)=some sz)(C:ev O x=.slice A n c) (p:match lo with|none=>l=0|some o=>∃(k:IntKind)(n:Int),ev O o=.int k n/\n=l)(f:match hi with|none=>h=n|some o=>∃(k:IntKind)(n:Int),ev O o=.int k n/\n=h) (h1:l<=h)(h2:h<=c):(execOp (ev O) ⟨d,.slice t x lo hi none,ty,pos,af,g⟩).run P w=.ok (.value (.slice (if c=l then A else A.map (·.add (l*sz))) (h-l) (c-l))) w:=by
 obtain⟨i,H,v⟩:=y9.1 M;have N:(l:Int)<=h:=Z';have L:(h:Int)<=c:=Z'
 cases lo<;>cases hi<;>simp only[] at p f
 .subst p;subst f;simp[execOp,C,Instr.sliceAt,Instr.slice,run_underlying S,Instr.sliceBounds,sizeOf,typeInfo,H]
 .obtain⟨k2,r,u,rfl⟩:=f;subst p;simp[execOp,C,Instr.sliceAt,Instr.slice,run_underlying S,Instr.sliceBounds,Instr.sliceBound,asIntOf,u,h2,sizeOf,typeInfo,H]
 .obtain⟨k2,r,u,rfl⟩:=p;subst f;simp[execOp,C,Instr.sliceAt,Instr.slice,run_underlying S,Instr.sliceBounds,Instr.sliceBound,asIntOf,u,h1,sizeOf,typeInfo,H,v]
 obtain⟨k2,r,u,rfl⟩:=f;obtain⟨F,q,W,rfl⟩:=p;simp[execOp,C,Instr.sliceAt,Instr.slice,run_underlying S,Instr.sliceBounds,Instr.sliceBound,asIntOf,u,W,h1,h2,sizeOf,typeInfo,H,v]
def Vb{t e:TypeId}{x i:Operand}{b:Addr}{n c sz:Nat}{k:IntKind}{m:Int}(S:P.underlying t=some (.slice e))(M:(P.info? e).map (·.size)=some sz)(C:ev O x=.slice (some b) n c)(hi:ev O i=.int k m) (J:0<=m)(h1:m<n):(execOp (ev O) ⟨d,.indexAddr t x i,ty,pos,af,g⟩).run P w=.ok (.value (.pointer (some (b.add (m.toNat*sz))))) w:=by
 obtain⟨i,H,v⟩:=y9.1 M;simp[execOp,C,hi,Instr.indexAt,asIntOf,run_underlying S,sizeOf,typeInfo,H,v,J,h1]
def Kc{t e:TypeId}{x i:Operand}{b n c sz k:Nat}{p:IntKind}{m:Int}(S:P.underlying t=some (.slice e))(M:(P.info? e).map (·.size)=some sz)(C:ev O x=.slice (some ⟨b,0,none⟩) n c)(hi:ev O i=.int p m) (hm:m=(k:Int))(h1:k<n):(execOp (ev O) ⟨d,.indexAddr t x i,ty,pos,af,g⟩).run P w=.ok (.value (.pointer (some ⟨b,k*sz,none⟩))) w:=by
 have h:=Vb (P:=P) (w:=w) (d:=d) (ty:=ty) (pos:=pos) (af:=af) (g:=g) S M C hi Z' Z';rw[h,hm];have:(⟨b,0,none⟩:Addr).add (((k:Int)).toNat*sz)=⟨b,k*sz,none⟩:=by
  unfold Addr.add;split
  .rename_i J;rw[z9] at J;rw[J]
  rw[z9];simp
 rw[this]
def BR{x:Operand}{args:Array Operand}{ts:Array TypeId}{f:FuncId}{fn:Func}{first cap:Array Value}{vs:Array Value}(Y:P.funcs[f]?=some fn)(F:fn.body.isNone=false)(B:(fn.name== "runtime.NumGoroutine")=false) (C:ev O x=.func (.func f) first cap)(M:args.map (ev O)=vs):(execOp (ev O) ⟨d,.call ⟨.value x,args,ts⟩,ty,pos,af,g⟩).run P w=.ok (.enter f (first++vs++cap)) w:=by
 have h1:¬fn.name= "runtime.NumGoroutine" :=by simpa using B
 have h2:¬fn.body=none:=by intro h;simp[h] at F
 simp[execOp,resolve,Deferred.ofValue,C,M,invoke,callFunc,program,Sem.run,Y,h1,h2]
def sd(P:Program)(t:TypeId):Option (Nat×Bool×Nat×List Value):=
 match P.info? t,P.underlying t with
 |some i,some d=>i.zero.map λz=>(i.size,(match d with|.struct _|.array _ _=>true|_=>false),i.bytes,z.cells.toList)
 |_,_=>none
def df{P:Program}{t:TypeId}{n by':Nat}{ag:Bool}{zc:List Value}(h:sd P t=some (n,ag,by',zc)):
  ∃i z d,P.info? t=some i/\P.underlying t=some d/\i.zero=some z/\i.size=n/\i.bytes=by'/\z.cells=zc.toArray/\(match d with|.struct _|.array _ _=>true|_=>false)=ag:=by
 unfold sd at h;split at h
 .rename_i i d hi T;obtain⟨z,o,he⟩:=y9.1 h;simp only[Prod.mk.injEq] at he;exact⟨i,z,d,hi,T,o,he.1,he.2.2.1,by rw[<-he.2.2.2],he.2.1⟩
 cases h
variable {n by':Nat}{ag:Bool}{zc:List Value}
def qe(h:sd P t=some (n,ag,by',zc)):(sizeOf t).run P w=.ok n w:=by
 obtain⟨i,z,d,hi,T,o,K,_⟩:=df h;simp[sizeOf,typeInfo,hi,K]
def tj(h:sd P t=some (n,ag,by',zc)):(isAgg t).run P w=.ok ag w:=by
 obtain⟨i,z,d,hi,T,o,K,_,_,M⟩:=df h;simp only[isAgg,Sem.run_bind,run_underlying T,Result.andThen_ok];subst M
 cases d<;>rfl
def kf(h:sd P t=some (n,ag,by',zc)):∃z,(zeroValue t).run P w=.ok z w/\z.cells=zc.toArray:=by
 obtain⟨i,z,d,hi,T,o,K,_,E,_⟩:=df h;exact⟨z,by simp[zeroValue,typeInfo,hi,o],E⟩
def Rd(w:World)(b:Addr)(vs:List Value):Prop:=∀j u,vs[j]?=some u->w.cell? (b.add j)=some u
def Sl(w:World)(A:t6)(n k:Nat)(xs:List Value):Prop:=xs.length=n*k/\(0<n->∃b,A=some b/\Rd w b xs)
def Fe(b o n:Nat):(⟨b,o,none⟩:Addr).add n=⟨b,o+n,none⟩:=by
 unfold Addr.add;split
 .rename_i h;subst h;rfl
 rfl
def xu(a:Addr)(i j:Nat):(a.add i).add j=a.add (i+j):=by
 unfold Addr.add;by_cases hi:i=0<;>by_cases hj:j=0<;>simp[hi,hj,P7]
def cn{w:World}{a:Addr}{v:Value}(h:w.cell? a=some v):a.block<w.heap.size:=block_lt_of_cell h
def Ab{w V:World}(h:Below w.heap.size w V){a:Addr}{v:Value}(E:w.cell? a=some v):V.cell? a=some v:=(h.cell (cn E)).trans E
def Rd.ext{w V:World}{b:Addr}{vs:List Value}(h:Rd w b vs)(F:Below w.heap.size w V):Rd V b vs:=λj u hu=>Ab F (h j u hu)
def Sl.ext{w V:World}{A:t6}{n k:Nat}{xs:List Value}(h:Sl w A n k xs)(F:Below w.heap.size w V):Sl V A n k xs:=
 ⟨h.1,λB=>let⟨b,M,H⟩:=h.2 B;⟨b,M,H.ext F⟩⟩
def Rd.drop{w:World}{b:Addr}{vs:List Value}(h:Rd w b vs)(i:Nat):Rd w (b.add i) (vs.drop i):=λj u hu=>by
 rw[xu];exact h _ u (by rw[<-hu,U8])
def Rd.take{w:World}{b:Addr}{vs:List Value}(h:Rd w b vs)(n:Nat):Rd w b (vs.take n):=λj u hu=>by
 rw[P8] at hu;split at hu
 .exact h _ u hu
 cases hu
def Rd.cell{w:World}{b:Addr}{vs:List Value}(h:Rd w b vs){i:Nat}{v:Value}(A:vs[i]?=some v):w.cell? (b.add i)=some v:=h i v A
def Sl.nil(w:World)(A:t6)(k:Nat):Sl w A 0 k []:=⟨by simp,λh=>absurd h Z'⟩
def Sl.at_{w:World}{A:t6}{n k:Nat}{xs:List Value}(h:Sl w A n k xs)(B:0<n):∃b,A=some b/\Rd w b xs:=h.2 B
def Rd.elem{w:World}{b:Addr}{xs:List Value}(h:Rd w b xs)(i k:Nat):Rd w (b.add (i*k)) ((xs.drop (i*k)).take k):=(h.drop _).take _
def Sl.cut{w:World}{A:t6}{n k c l m:Nat}{xs:List Value}(h:Sl w A n k xs)(Q:l<=m)(hm:m<=n)(E:n<=c):
  Sl w (if c=l then A else A.map (·.add (l*k))) (m-l) k ((xs.drop (l*k)).take ((m-l)*k)):=by
 have hle:l*k+(m-l)*k<=n*k:=(by rw[<-K8];exact n_ _ Z');refine⟨by rw[q',Q9,h.1];omega,λB=> ?_⟩;obtain⟨b,rfl,H⟩:=h.2 Z';rw[R' Z'];exact⟨_,rfl,(H.drop _).take _⟩
inductive HE where
 |blk (b:Nat)(t:TypeId)(cs:List Value)(fz:Nat×Nat)
 |row (A:t6)(n c:Nat)(t:TypeId)(sz:Nat)(xs:List Value)
 |ob (b:Nat)(o:Obj)
abbrev HE.it(b:Nat)(s:t7)(pos:Nat):HE:=.ob b (.stringIter s pos)
def HE.id:HE->Option Nat
 |.blk b _ _ _=>some b
 |.row A _ _ _ _ _=>A.map (·.block)
 |.ob b _=>some b
def HE.holds(base:Nat)(w:World):HE->Prop
 |.blk b t cs fz=>base<=b/\w.heap[b]?=some (.cells cs.toArray t fz)/\(cs.length<=fz.1\/fz.2<=fz.1)
 |.row A n c t sz xs=>w.ownsRow base t sz (.slice A n c) n xs
 |.ob b o=>base<=b/\w.heap[b]?=some o
structure Hp(w0:World)(H:List HE)(w:World):Prop where
 below:Below w0.heap.size w0 w
 own:∀x∈H,x.holds w0.heap.size w
 nd:(H.filterMap HE.id).Nodup
def Hp.start(w:World):Hp w [] w:=⟨Below.refl _ _,λ_ h=>(nomatch h),List.nodup_nil⟩
variable {w0:World}{H:List HE}
def Hp.size(h:Hp w0 H w):w0.heap.size<=w.heap.size:=h.below.size
def de{base:Nat}{x:HE}(h:x.holds base w){b:Nat}(F:x.id=some b):base<=b/\b<w.heap.size:=by
 cases x with
 |blk d t cs fz=>
  obtain rfl:d=b:=by simpa[HE.id] using F
  refine⟨h.1, ?_⟩;obtain D|N:=z_ d w.heap.size
  .exact D
  have:=h.2.1;rw[T6 N] at this;cases this
 |row A n c t sz xs=>
  cases A with
  |none=>simp[HE.id] at F
  |some a=>exact World.ownsRow.lt h b (by simpa[HE.id,Value.ownBlock] using F)
 |ob d o=>
  obtain rfl:d=b:=by simpa[HE.id] using F
  refine⟨h.1, ?_⟩;obtain D|N:=z_ d w.heap.size
  .exact D
  have:=h.2;rw[T6 N] at this;cases this
variable {V:World}
def jl{base:Nat}{x:HE}(h:x.holds base w)(u:∀b,x.id=some b->V.heap[b]?=w.heap[b]?):x.holds base V:=by
 cases x with
 |blk b t cs fz=>exact⟨h.1,(u b rfl).trans h.2.1,h.2.2⟩
 |row A n c t sz xs=>
  obtain⟨h1,h2⟩:=h;refine⟨h1, ?_⟩;obtain h2|⟨g,cap,cur,a,s,I,r⟩:=h2
  .exact .inl h2
  have R:A=some ⟨g,0,none⟩:=by injection a
  subst R;exact .inr ⟨g,cap,cur,a,s,(u g rfl).trans I,r⟩
 |ob b o=>exact⟨h.1,(u b rfl).trans h.2⟩
def Hp.ext(h:Hp w0 H w)(F:Below w.heap.size w V):Hp w0 H V:=
 ⟨h.below.trans (F.mono h.size),λx C=>jl (h.own x C) λ_ hi=>F.block _ (de (h.own x C) hi).2,h.nd⟩
def Hp.sub(h:Hp w0 H w){H':List HE}(K:H'.Sublist H):Hp w0 H' w:=⟨h.below,λx C=>h.own x (K.subset C),h.nd.sublist (K.filterMap _)⟩
def Hp.at_(h:Hp w0 H w){i:Nat}{x:HE}(hi:H[i]?=some x):x.holds w0.heap.size w:=h.own x (O' hi)
def Hp.Ed(h:Hp w0 H w)(F:Below w.heap.size w V){x:HE}(C:x.holds w.heap.size V):Hp w0 (x::H) V:=by
 have S:=h.ext F;refine⟨S.below, ?_, ?_⟩
 .intro y hy;obtain rfl|hy:=y'.1 hy
  .cases y with
   |blk b t cs fz=>exact⟨p' h.size C.1,C.2⟩
   |row A n c t sz xs=>
    obtain⟨h1,h2⟩:=C;exact⟨h1,h2.imp id λ⟨g,cap,cur,a,s,r⟩=>⟨g,cap,cur,a,p' h.size s,r⟩⟩
   |ob b o=>exact⟨p' h.size C.1,C.2⟩
  exact S.own y hy
 rw[C8];split
 .exact S.nd
 rename_i b Y;refine G8.2 ⟨λhm=> ?_,S.nd⟩;obtain⟨y,hy,d⟩:=H9.1 hm;have h1:=(de C Y).1;have h2:=(de (h.own y hy) d).2;omega
def Hp.dR(h:Hp w0 H w){i:Nat}{x y:HE}(hi:H[i]?=some x)(j:∀b,y.id=some b->x.id=some b\/w.heap.size<=b) (F:Below w0.heap.size w0 V)(k:∀b,b<w.heap.size->x.id≠some b->V.heap[b]?=w.heap[b]?)(hy:y.holds w0.heap.size V):Hp w0 (H.set i y) V:=by
 obtain⟨D,C⟩:=z'.1 hi;have c:H=H.take i++x::H.drop (i+1):=(by rw[<-C,<-m9 D,Y9]);have d:H.set i y=H.take i++y::H.drop (i+1):=by rw[J6,Q' D]
 have m:=h.nd;rw[c,p6] at m;have a:∀z,z∈H.take i\/z∈H.drop (i+1)->z∈H/\(∀b,z.id=some b->x.id≠some b):=by
  intro z o;refine⟨o.elim Z8 j6,λb p l=> ?_⟩;rw[C8,l] at m;simp only[] at m;rw[List.nodup_append] at m;obtain o|o:=o
  .exact m.2.2 b (H9.2 ⟨z,o,p⟩) b (E') rfl
  exact(G8.1 m.2.1).1 (H9.2 ⟨z,o,p⟩)
 have hold:∀z,z∈H.take i\/z∈H.drop (i+1)->z.holds w0.heap.size V:=λz o=>(by obtain⟨hm,E⟩:=a z o;exact jl (h.own z hm) λb p=>k b (de (h.own z hm) p).2 (E b p));rw[d];refine⟨F, ?_, ?_⟩
 .intro z o;obtain o|o:=A_.1 o
  .exact hold z (.inl o)
  obtain rfl|o:=y'.1 o
  .exact hy
  exact hold z (.inr o)
 rw[p6];have g:((H.take i).filterMap HE.id++(H.drop (i+1)).filterMap HE.id).Nodup:=(by refine m.sublist (List.Sublist.append (u_ _) ?_);exact List.Sublist.filterMap _ (d_ _ _));rw[C8];split
 .exact g
 rename_i b f;have e:∀z,z∈H.take i\/z∈H.drop (i+1)->z.id≠some b:=λz o p=>by
  obtain⟨hm,E⟩:=a z o;obtain h1|h1:=j b f
  .exact E b p h1
  have:=(de (h.own z hm) p).2;omega
 rw[List.nodup_append] at g |-;refine⟨g.1,G8.2 ⟨λhm=> ?_,g.2.1⟩,λu hu v A=> ?_⟩
 .obtain⟨z,o,p⟩:=H9.1 hm;exact e z (.inr o) p
 obtain rfl|A:=y'.1 A
 .rintro rfl;obtain⟨z,o,p⟩:=H9.1 hu;exact e z (.inl o) p
 exact g.2.2 u hu v A
def Hp.rp(h:Hp w0 H w){i b:Nat}{t:TypeId}{cs:List Value}{fz:Nat×Nat}(hi:H[i]?=some (.blk b t cs fz)):Rd w ⟨b,0,none⟩ cs:=λj u hu=>by
 have h1:=(h.at_ hi).2.1;rw[Fe,i',cell_of_row w b j _ t fz h1];simpa using hu
def Hp.Dd(h:Hp w0 H w){i b o:Nat}{t:TypeId}{cs:List Value}{fz:Nat×Nat}{v:Value}(hi:H[i]?=some (.blk b t cs fz))(A:cs[o]?=some v):w.cell? ⟨b,o,none⟩=some v:=by
 have:=h.rp hi o v A;rwa[Fe,i'] at this
def Hp.wa(h:Hp w0 H w){i b o n:Nat}{t:TypeId}{cs vs:List Value}{fz:Nat×Nat}(hi:H[i]?=some (.blk b t cs fz))(A:(cs.drop o).take n=vs):Rd w ⟨b,o,none⟩ vs:=by
 have:=((h.rp hi).drop o).take n;rwa[Fe,i',A] at this
def xg{base:Nat}{t:TypeId}{A:t6}{n c sz:Nat}{xs:List Value}(h:w.ownsRow base t sz (wn A n c) n xs):Sl w A n sz xs:=by
 refine⟨h.1,λB=> ?_⟩;obtain⟨g,cap,a,_,D⟩:=h.form B;have R:A=some ⟨g,0,none⟩:=by injection a
 subst R;exact⟨_,rfl,h.cells (g:=g) rfl⟩
def Hp.ib(h:Hp w0 H w){i n c sz:Nat}{A:t6}{t:TypeId}{xs:List Value}(hi:H[i]?=some (.row A n c t sz xs))(B:0<n):∃g,A=some ⟨g,0,none⟩:=by
 obtain⟨g,cap,a,_⟩:=World.ownsRow.form (h.at_ hi) B;injection a with R
 exact⟨g,R⟩
def Hp.Pd(h:Hp w0 H w){i b n c sz o:Nat}{t:TypeId}{xs:List Value}{v:Value}(hi:H[i]?=some (.row (some ⟨b,0,none⟩) n c t sz xs))(A:xs[o]?=some v):w.cell? ⟨b,o,none⟩=some v:=by
 have:=World.ownsRow.cells (h.at_ hi) (g:=b) rfl o v A;rwa[Fe,i'] at this
def Hp.LY(h:Hp w0 H w){i n c sz:Nat}{A:t6}{t:TypeId}{xs:List Value}(hi:H[i]?=some (.row A n c t sz xs)):xs.length=n*sz:=(h.at_ hi).1
def Hp.ka(h:Hp w0 H w){i n c sz:Nat}{A:t6}{t:TypeId}{xs:List Value}(hi:H[i]?=some (.row A n c t sz xs)):Sl w A n sz xs:=xg (h.at_ hi)
def Ua{t:TypeId}{x:Operand}{b:Addr}{n by':Nat}{zc vs:List Value}(S:sd P t=some (n,true,by',zc))(C:ev O x=.pointer (some b))(H:Rd w b vs)(Q:vs.length=n):(execOp (ev O) ⟨d,.load t x,ty,pos,af,g⟩).run P w=.ok (.value (.agg vs.toArray)) w:=by
 subst Q;simp[execOp,C,Instr.loadAt,Instr.sureAddr,loadVar,tj S,qe S,run_loadCells_list (P:=P) w b vs H]
def Ma{t:TypeId}{x:Operand}{b:Addr}{n by':Nat}{zc:List Value}{v:Value}(S:sd P t=some (n,false,by',zc))(C:ev O x=.pointer (some b))(E:w.cell? b=some v):(execOp (ev O) ⟨d,.load t x,ty,pos,af,g⟩).run P w=.ok (.value v) w:=by
 simp[execOp,C,Instr.loadAt,Instr.sureAddr,loadVar,tj S,run_load,E]
def kb{t:TypeId}{b:Addr}{n by':Nat}{zc vs:List Value}(S:sd P t=some (n,true,by',zc))(H:Rd w b vs)(Q:vs.length=n):(loadVar t b).run P w=.ok (.agg vs.toArray) w:=by
 subst Q;simp[loadVar,tj S,qe S,run_loadCells_list (P:=P) w b vs H]
def Qi(P:Program)(s:TypeId)(i:Nat):Option (Nat×TypeId):=
 match P.underlying s with
 |some (.struct fs)=>match fs[i]? with
  |some f=>if P.cellsOf f.type=0 then none else some (f.offset,f.type)
  |none=>none
 |_=>none
def Mw{s:TypeId}{x:Operand}{f b o off:Nat}{q:TypeId}(Y:Qi P s f=some (off,q))(C:ev O x=.pointer (some ⟨b,o,none⟩)):(execOp (ev O) ⟨d,.fieldAddr s x f,ty,pos,af,g⟩).run P w=.ok (.value (.pointer (some ⟨b,o+off,none⟩))) w:=by
 unfold Qi at Y;split at Y
 .rename_i fs K;split at Y
  .rename_i fd k;split at Y
   .cases Y
   rename_i E;refine aa8 ?_;intro i hi N;simp[execOp,C,Instr.fieldAt,run_underlying K,k,Instr.sureAddr,fieldPlace,sizeOf,typeInfo,hi,N,Fe]
  cases Y
 cases Y
def Zi{s:TypeId}{x:Operand}{f off:Nat}{b:Addr}{q:TypeId}(Y:Qi P s f=some (off,q))(C:ev O x=.pointer (some b)):(execOp (ev O) ⟨d,.fieldAddr s x f,ty,pos,af,g⟩).run P w=.ok (.value (.pointer (some (b.add off)))) w:=by
 unfold Qi at Y;split at Y
 .rename_i fs K;split at Y
  .rename_i fd k;split at Y
   .cases Y
   rename_i E;refine aa8 ?_;intro i hi N;simp[execOp,C,Instr.fieldAt,run_underlying K,k,Instr.sureAddr,fieldPlace,sizeOf,typeInfo,hi,N]
  cases Y
 cases Y
def nY{s:TypeId}{x:Operand}{f off n by':Nat}{q:TypeId}{cs vs:Array Value}{zc:List Value}(Y:Qi P s f=some (off,q))(S:sd P q=some (n,true,by',zc))(C:ev O x=.agg cs)(A:cs.extract off (off+n)=vs):(execOp (ev O) ⟨d,.field s x f,ty,pos,af,g⟩).run P w=.ok (.value (.agg vs)) w:=by
 unfold Qi at Y;split at Y
 .rename_i fs K;split at Y
  .rename_i fd k;split at Y
   .cases Y
   simp only[E8,Prod.mk.injEq] at Y;obtain⟨rfl,rfl⟩:=Y;simp[execOp,C,Instr.field,run_underlying K,k,asAgg,part,tj S,qe S,A]
  cases Y
 cases Y
def xb(cs:List Value)(o:Nat)(vs:List Value):List Value:=cs.take o++vs++cs.drop (o+vs.length)
def Qe{cs vs:List Value}{o:Nat}(h:o+vs.length<=cs.length):(xb cs o vs).length=cs.length:=by
 simp only[xb,D',q',Q9];omega
def pz(cs:List Value)(o:Nat):xb cs o []=cs:=by simp[xb]
def dw{cs vs:List Value}{o:Nat}{v:Value}(h:o+(v::vs).length<=cs.length):xb cs o (v::vs)=xb (cs.set o v) (o+1) vs:=by
 simp only[V_] at h;have J:cs.set o v=cs.take o++v::cs.drop (o+1):=by rw[J6,Q' Z']
 have h2:(cs.take o).length=o:=by simp;omega
 have h1:(cs.set o v).take (o+1)=cs.take o++[v]:=(by rw[J,List.take_append,h2,G' Z'];simp);have G:(cs.set o v).drop (o+1+vs.length)=cs.drop (o+1+vs.length):=List.drop_set_of_lt Z';unfold xb;rw[h1,G];simp[P7,F8 1]
def wB{a b c:World}{r:Option Nat}(h:a.grownBy b r)(k:b.grownBy c r):a.grownBy c r:=
 ⟨k.os.trans h.os,k.tape.trans h.tape,k.output.trans h.output,p' h.size k.size,λi hi E=>(k.block i (c_ hi h.size) E).trans (h.block i hi E)⟩
def NF(w:World)(b o:Nat)(v:Value):w.grownBy (w.setCell ⟨b,o,none⟩ v) (some b):=
 ⟨rfl,rfl,rfl,by simp[World.setCell],λk _ E=>Below.heap_setCell w _ v k (λe=>E (by rw[e]))⟩
def Pf{b:Nat}{t:TypeId}{fz:Nat×Nat}(o:Nat):∀(vs:List Value)(i:Nat)(cs:List Value)(w:World),w.heap[b]?=some (.cells cs.toArray t fz)->(cs.length<=fz.1\/fz.2<=fz.1)->
  o+i+vs.length<=cs.length->(∀v∈vs,v.oneCell'=true)->
  ∃V,(storeCells ⟨b,o,none⟩ vs i).run P w=.ok () V/\V.heap[b]?=some (.cells (xb cs (o+i) vs).toArray t fz)/\w.grownBy V (some b)/\V.heap.size=w.heap.size
 |[],i,cs,w,hw,_,_,_=>⟨w,by simp[storeCells],by rw[pz];exact hw,World.grownBy.refl _ _,rfl⟩
 |v::vs,i,cs,w,hw,Y,Q,h1=>by
  simp only[V_] at Q;have c:o+i<cs.length:=Z';have E:w.cell? ⟨b,o+i,none⟩=some cs[o+i]:=(by rw[cell_of_row w b (o+i) _ t fz hw];simp[D9 c]);have k:w.frozen? ⟨b,o+i,none⟩=false:=(by simp only[World.frozen?,hw];obtain Y|Y:=Y<;>simp<;>omega);have y:(w.setCell ⟨b,o+i,none⟩ v).heap[b]?=some (.cells (cs.set (o+i) v).toArray t fz):=(by simp[World.setCell,Array.getElem?_modify,hw]);obtain⟨V,H,a,s,K⟩:=Pf (b:=b) (t:=t) (fz:=fz) o vs (i+1) (cs.set (o+i) v) _ y (by simpa using Y) (by simp;omega) (λu hu=>h1 u (u' _ hu));refine⟨V, ?_, ?_,wB (NF w b (o+i) v) s,K.trans (by simp[World.setCell])⟩
  .simp only[storeCells,Sem.run_bind,Fe,run_store P w ⟨b,o+i,none⟩ v .plain (h1 v (E')),E,k];simpa using H
  rw[dw (by simp;omega)];exact a
def ko(pl:Nat->Option (Nat×Nat)):List Value->List (Nat×Value)->Option (List Value)
 |cs,[]=>some cs
 |cs,(i,v)::r=>
  match pl i with
  |none=>none
  |some (off,size)=>if v.cells.toList.length≠size\/cs.length<off+v.cells.toList.length then none else ko pl (xb cs off v.cells.toList) r
def dt:∀(vs:List Value)(k o:Nat)(cs:List Value),o+k+vs.length<=cs.length->(vs.zipIdx k).foldl (λ(cs:Array Value) (x:Value×Nat)=>cs.setIfInBounds (o+x.2) x.1) cs.toArray=(xb cs (o+k) vs).toArray
 |[],k,o,cs,_=>by simp[pz]
 |v::vs,k,o,cs,h=>(by rw[List.zipIdx_cons,Y7];simp only[List.setIfInBounds_toArray];rw[dt vs (k+1) o (cs.set (o+k) v) (by simp at h |-;omega),dw (by simp at h |-;omega)];rfl)
def Bx{pl:Nat->Option (Nat×Nat)}:∀(X:List (Nat×Value))(b cs:List Value),ko pl b X=some cs->Instr.fill pl b.toArray X=some cs.toArray
 |[],b,cs,h=>by simp only[ko,E8] at h;subst h;rfl
 |(i,v)::r,b,cs,h=>by
  unfold ko at h;unfold Instr.fill;split at h
  .cases h
  rename_i off size s;split at h
  .cases h
  rename_i E;simp only[ne_eq,not_or,Decidable.not_not,Nat.not_lt] at E;simp only[s];have h1:¬((v.cells.size≠size||decide (off+v.cells.size>b.toArray.size))=true):=by
   have e:v.cells.size=v.cells.toList.length:=by simp
   simp only[e,E.1,B7,Z7,Y_,ne_eq,not_true,decide_false,D7,false_or];omega
  rw[R' h1];have h2:v.cells.zipIdx.foldl (λ(cs:Array Value) (x:Value×Nat)=>cs.setIfInBounds (off+x.2) x.1) b.toArray=(xb b off v.cells.toList).toArray:=(by have:=dt v.cells.toList 0 off b Z';rw[N9] at this;rw[<-this,<-Array.foldl_toList,Array.toList_zipIdx]);exact(C_ (λx=>Instr.fill pl x r) h2).trans (Bx r _ cs h)
def hh:Nat->List Value->List Value
 |0,_=>[]
 |n+1,zc=>zc++hh n zc
def ak(n:Nat)(zc:List Value):(hh n zc).length=n*zc.length:=by
 induction n with
 |zero=>simp[hh]
 |succ n W=>simp[hh,W,K8,F8]
def QD:∀(n:Nat)(zc:List Value)(i:Nat),i<n*zc.length->(hh n zc)[i]?=zc[i % zc.length]?
 |0,zc,i,h=>by simp at h
 |n+1,zc,i,h=>by
  unfold hh;obtain hi|hi:=z_ i zc.length
  .rw[o9 hi,G_ hi]
  rw[R9 hi,QD n zc (i-zc.length) (by rw[K8] at h;omega)];congr 1;rw[Nat.mod_eq_sub_mod hi]
def BA(n:Nat)(zc:List Value):(Array.range (n*zc.length)).map (λi=>zc.toArray[i % zc.length]!)=(hh n zc).toArray:=by
 apply Array.ext_getElem?;intro i;obtain h|h:=z_ i (n*zc.length)
 .have A:0<zc.length:=by
   obtain J|J:=a9 zc.length
   .rw[J] at h;omega
   exact J
  have hm:i % zc.length<zc.length:=R_ _ A;simp[h,QD n zc i h,D9 hm]
 have h2:(hh n zc).length<=i:=by rw[ak];exact h
 simp[h2,h]
def ZI(O:Rf):List (Nat×Operand)->List (Nat×Value)
 |[]=>[]
 |(i,x)::l=>(i,ev O x)::ZI O l
def TN{O:Rf}(parts:Array (Nat×Operand)){X:List (Nat×Value)}(h:ZI O parts.toList=X):(parts.map λ(i,x)=>(i,ev O x))=X.toArray:=by
 have h1:∀l:List (Nat×Operand),l.map (λ(i,x)=>(i,ev O x))=ZI O l:=by
  intro l
  induction l with
  |nil=>rfl
  |cons a l W=>simp only[T_,W];rfl
 subst h;rw[<-h1];apply C7;simp
def Wx{V:World}{r:Option Nat}(h:Below w0.heap.size w0 w)(s:w.grownBy V r)(H:∀k,r=some k->w0.heap.size<=k):Below w0.heap.size w0 V:=h.grown s h.size H
def Hp.grown{V:World}{x y:HE}{i:Nat}(h:Hp w0 H w)(hi:H[i]?=some x)(s:w.grownBy V x.id)(j:y.id=x.id\/y.id=none\/y.id=some w.heap.size)(hy:y.holds w0.heap.size V):Hp w0 (H.set i y) V:=by
 refine h.dR hi (λb F=> ?_) (Wx h.below s λk u=>(de (h.at_ hi) u).1) (λb D E=>s.block b D (λe=>E e.symm)) hy;obtain e|e|e:=j
 .exact .inl (by rw[<-e];exact F)
 .rw[e] at F;cases F
 rw[e] at F;injection F with F
 exact .inr Z'
def Hp.yb(h:Hp w0 H w)(t:TypeId)(sz:Nat):Hp w0 (.row none 0 0 t sz []::H) w:=
 ⟨h.below,λx C=>by
  obtain rfl|C:=y'.1 C
  .exact World.ownsRow_nil _ _ _ _
  exact h.own x C,by show(List.filterMap HE.id H).Nodup;exact h.nd⟩
def Hp.EL(h:Hp w0 H w)(t:TypeId)(cs:List Value):Hp w0 (.blk w.heap.size t cs (0,0)::H) (w.alloc (.cells cs.toArray t)):=
 h.Ed ((Below.refl _ _).alloc (F' _) _) ⟨F' _,heap_alloc_new w _,.inr (F' _)⟩
def Hp.CN(h:Hp w0 H w)(t:TypeId)(sz n:Nat)(cs:List Value)(Q:cs.length=n*sz)(B:n<=maxLen):Hp w0 (.row (some ⟨w.heap.size,0,none⟩) n n t sz cs::H) (w.alloc (.cells cs.toArray t)):=
 h.Ed ((Below.refl _ _).alloc (F' _) _) ⟨Q,.inr ⟨w.heap.size,n,cs.toArray,rfl,F' _,heap_alloc_new w _,F' _,B,by simpa using Q,by simp only[G' (show cs.length<=n*sz by omega)]⟩⟩
variable {d:Nat}
def kT(I:Hp w0 H w){t:TypeId}{x:Operand}{cs:List Value}{v:Value}(C:ev O x=v)(E:v.cells=cs.toArray)(L:d<N) (k:∀b V,Hp w0 (.blk b t cs (0,0)::H) V->WL ro P N ops Q rest (vd O d (.pointer (some ⟨b,0,none⟩))) V):WL ro P N ops Q (⟨some d,.box t x,ty,pos,af,none⟩::rest) O w:=
 Jb rfl rfl L (V:=w.alloc (.cells cs.toArray t)) (v:=.pointer (some ⟨w.heap.size,0,none⟩)) (by simp[execOp,C,Instr.box,newVar,newRow,E]) (k _ _ (I.EL t cs))
def vS(I:Hp w0 H w){t:TypeId}{n by':Nat}{ag:Bool}{zc:List Value}(S:sd P t=some (n,ag,by',zc))(L:d<N) (k:∀b V,Hp w0 (.blk b t zc (0,0)::H) V->WL ro P N ops Q rest (vd O d (.pointer (some ⟨b,0,none⟩))) V):WL ro P N ops Q (⟨some d,.alloc t,ty,pos,af,none⟩::rest) O w:=by
 obtain⟨z,o,r⟩:=kf (w:=w) S;exact Jb rfl rfl L (V:=w.alloc (.cells zc.toArray t)) (v:=.pointer (some ⟨w.heap.size,0,none⟩)) (by simp[execOp,Instr.alloc,newVar,newRow,o,r]) (k _ _ (I.EL t zc))
def It(I:Hp w0 H w){t f:TypeId}{x y:Operand}{i b o n by':Nat}{ag:Bool}{zc cs vs:List Value}{fz:Nat×Nat}{v:Value}(C:ev O x=.pointer (some ⟨b,o,none⟩))(hi:H[i]?=some (.blk b f cs fz)) (hy:ev O y=v)(E:v.cells=vs.toArray)(S:sd P t=some (n,ag,by',zc))(a:vs.length=n)(W:o+n<=cs.length)(h1:(vs.all Value.oneCell')=true) (k:∀V,Hp w0 (H.set i (.blk b f (xb cs o vs) fz)) V->WL ro P N ops Q rest O V):WL ro P N ops Q (⟨none,.store t x y,ty,pos,af,none⟩::rest) O w:=by
 have F:=I.at_ hi;obtain⟨V,c,Y,s,K⟩:=Pf (P:=P) (b:=b) (t:=f) (fz:=fz) o vs 0 cs w F.2.1 F.2.2 Z' (by simpa using h1);refine vE rfl rfl (V:=V) ?_ (k V (I.grown hi s (.inl rfl) ⟨F.1,by simpa using Y,by rw[Qe Z'];exact F.2.2⟩));simp[execOp,C,hy,Instr.storeAt,Instr.sureAddr,storeVar,qe S,a,E,c]
def Lb(I:Hp w0 H w){t f:TypeId}{x y:Operand}{i b o n m c sz by':Nat}{ag:Bool}{zc xs vs:List Value}{v:Value}(C:ev O x=.pointer (some ⟨b,o,none⟩))(hi:H[i]?=some (.row (some ⟨b,0,none⟩) m c f sz xs)) (hy:ev O y=v)(E:v.cells=vs.toArray)(S:sd P t=some (n,ag,by',zc))(j:vs.length=n)(W:o+n<=xs.length)(h1:(vs.all Value.oneCell')=true) (k:∀V,Hp w0 (H.set i (.row (some ⟨b,0,none⟩) m c f sz (xb xs o vs))) V->WL ro P N ops Q rest O V):WL ro P N ops Q (⟨none,.store t x y,ty,pos,af,none⟩::rest) O w:=by
 have K:=I.at_ hi;obtain⟨hlen,h2⟩:=K;obtain⟨h2,_⟩|⟨g,cap,cur,A,s,F,q,e,a,d⟩:=h2
 .injection h2 with h2;cases h2
 injection A with R B X
 injection R with R
 injection R with R
 subst R;subst X;have h:cur.size=cur.toList.length:=by simp
 have hle:m*sz<=c*sz:=n_ _ q;obtain⟨V,p,Y,T,u⟩:=Pf (P:=P) (b:=b) (t:=f) (fz:=(0,0)) o vs 0 cur.toList w (by simpa using F) (.inr (F' _)) (by rw[<-h];omega) (by simpa using h1);refine vE rfl rfl (V:=V) ?_ (k V (I.grown hi T (.inl rfl) ⟨by rw[Qe Z'];exact hlen,.inr ⟨b,c,(xb cur.toList o vs).toArray,rfl,s,by simpa using Y,q,e, ?_, ?_⟩⟩))
 .simp[execOp,C,hy,Instr.storeAt,Instr.sureAddr,storeVar,qe S,j,E,p]
 .simp only[B7];rw[Qe (by rw[<-h];omega),<-h,a]
 simp only[xb];rw[<-d];have r:o+vs.length<=m*sz:=Z';have L:m*sz<=cur.toList.length:=by rw[<-h,a];exact hle
 refine abc ?_;congr 2;congr 1;omega
def vc(I:Hp w0 H w){t e:TypeId}{len sz by':Nat}{ag:Bool}{parts:Array (Nat×Operand)}{X:List (Nat×Value)}{zc cs:List Value}(S:P.underlying t=some (.slice e))(D:sd P e=some (sz,ag,by',zc)) (hp:ZI O parts.toList=X)(f:zc.length=sz)(Y:ko (λi=>some (i*sz,sz)) (hh len zc) X=some cs)(J:¬len*sz=0)(hle:len<=1000)(p:len*sz<=16777216)(c:cs.length=len*sz)(L:d<N) (k:∀b V,Hp w0 (.row (some ⟨b,0,none⟩) len len e sz cs::H) V->WL ro P N ops Q rest (vd O d (.slice (some ⟨b,0,none⟩) len len)) V):WL ro P N ops Q (⟨some d,.buildSlice t len parts,ty,pos,af,none⟩::rest) O w:=by
 obtain⟨z,o,r⟩:=kf (w:=w) D;refine Jb rfl rfl L (V:=w.alloc (.cells cs.toArray e)) (v:=.slice (some ⟨w.heap.size,0,none⟩) len len) ?_ (k _ _ (I.CN e sz len cs c (by unfold maxLen;omega)));have g:¬2^24<len*sz:=Z';have T:=Bx _ _ _ Y;refine aaO ?_;intro T h a;simp[newRow]
def Jz(P:Program)(t:TypeId):Option (List (Nat×Nat)):=
 match P.underlying t with
 |some (.struct fs)=>fs.toList.mapM λf=>(P.info? f.type).map λi=>(f.offset,i.size)
 |_=>none
def Ty{P:Program}{w:World}:∀(l:List Field)(pl:List (Nat×Nat)),(l.mapM λf=>(P.info? f.type).map λi=>(f.offset,i.size))=some pl->(l.mapM (m:=Sem) λf=>do pure (f.offset,<-sizeOf f.type)).run P w=.ok pl w
 |[],pl,h=>(by simp at h;subst h;simp)
 |f::l,pl,h=>by
  rw[List.mapM_cons] at h
  cases hi:P.info? f.type with
  |none=>simp[hi] at h
  |some i=>
   cases H:l.mapM (λf=>(P.info? f.type).map λi=>(f.offset,i.size)) with
   |none=>simp[H] at h
   |some a=>
    simp[hi,H] at h;have W:=Ty (w:=w) l a H;have K:(sizeOf f.type).run P w=.ok i.size w:=by simp[sizeOf,typeInfo,hi]
    rw[List.mapM_cons,Sem.run_bind,Sem.run_bind,K,Result.andThen_ok,Sem.run_pure,Result.andThen_ok,Sem.run_bind,W,Result.andThen_ok,Sem.run_pure,h]
def Hn{dd:Option Nat}{g:Option (Nat×Bool)}{t:TypeId}{n by':Nat}{parts:Array (Nat×Operand)}{X:List (Nat×Value)}{zc cs:List Value}{pl:List (Nat×Nat)}(D:sd P t=some (n,true,by',zc)) (s:Jz P t=some pl) (hp:ZI O parts.toList=X)(Y:ko (pl[·]?) zc X=some cs):(execOp (ev O) ⟨dd,.build t parts,ty,pos,af,g⟩).run P w=.ok (.value (.agg cs.toArray)) w:=by
 obtain⟨z,o,r⟩:=kf (w:=w) D;unfold Jz at s;split at s
 .rename_i fs i;have h1:=Ty (w:=w) _ _ s;have h2:(fs.mapM (m:=Sem) λf=>do pure (f.offset,<-sizeOf f.type)).run P w=.ok pl.toArray w:=by
   have e:fs=fs.toList.toArray:=by simp
   rw[e,List.mapM_toArray,Sem.run_map,h1];rfl
  have T:=Bx _ _ _ Y;have W:(λ(x:Nat)=>pl.toArray[x]?)=λx=>pl[x]?:=by funext x;simp
  have a:=TN parts hp;simp only[execOp,a,Instr.build,Sem.run_bind,o,Result.andThen_ok,run_underlying i,h2,r,W,T,Sem.run_pure]
 cases s
def gj(A:t6)(n c:Nat):(Value.slice A n c).ownBlock=A.map (·.block):=by cases A<;>rfl
def nt(n:Nat)(z:Value):hh n [z]=List.replicate n z:=by
 induction n with
 |zero=>rfl
 |succ n W=>simp[hh,W,a8]
def uH{w:World}{b:Addr}{xs:List Value}{m:Int}{k:Nat}{v:Value}(h:Rd w b xs)(C:xs[k]?=some v)(hm:m=(k:Int)):w.cell? (b.add (m.toNat*1))=some v:=by
 subst hm;simpa using h k v C
def jj(l:List UInt8):List Value:=l.map λc=>.int .u8 c.toNat
def Tf(l:List UInt8):(jj l).length=l.length:=by simp[jj]
def cu(base:Nat)(t ty e:TypeId)(i:TypeInfo)(S:P.underlying t=some (.slice e))(hi:P.info? e=some i) (v:Value)(n:Nat)(xs:List Value)(sz:Nat)(W:w.ownsRow base e sz v n xs)(c:Nat):(Builtin.append_ #[t,t] ty #[v,.slice none 0 c]).run P w=.ok v w:=by
 obtain⟨rfl,rfl⟩|⟨g,cap,cur,rfl,_,_,r,_⟩:=W.2
 .simp[Builtin.append_,run_underlying S,sizeOf,typeInfo,hi,Builtin.lenOf,Builtin.firstCells]
 simp[Builtin.append_,run_underlying S,sizeOf,typeInfo,hi,Builtin.lenOf,Builtin.firstCells,r,storeCells]
def tm(base:Nat)(t ty e:TypeId)(sz by':Nat)(ag:Bool)(zc:List Value)(S:P.underlying t=some (.slice e))(D:sd P e=some (sz,ag,by',zc))(o:zc.length=sz)(M:0<sz) (A:Option Addr)(n c:Nat)(xs:List Value)(W:w.ownsRow base e sz (.slice A n c) n xs)(B:Option Addr)(m c':Nat)(news:List Value)(p:Sl w B m sz news)(h1:∀u∈news,u.oneCell'=true) (X:n+m<=maxLen)(a:(n+m)*by'<=140737488355328)(v:base<=w.heap.size):
  ∃T Y V,(Builtin.append_ #[t,t] ty #[.slice A n c,.slice B m c']).run P w=.ok (.slice T (n+m) Y) V/\V.ownsRow base e sz (.slice T (n+m) Y) (n+m) (xs++news)/\
   w.grownBy V (A.map (·.block))/\(T.map (·.block)=A.map (·.block)\/T.map (·.block)=none\/T.map (·.block)=some w.heap.size):=by
 obtain⟨i,z,d,hi,C,x,K,h,l,_⟩:=df D;have s:z.cells.size=sz:=by rw[l];simpa using o
 have fin:∀(b:Addr),B=some b->Rd w b news->∃T Y V,(Builtin.append_ #[t,t] ty #[.slice A n c,.slice B m c']).run P w=.ok (.slice T (n+m) Y) V/\V.ownsRow base e sz (.slice T (n+m) Y) (n+m) (xs++news)/\
   w.grownBy V (A.map (·.block))/\(T.map (·.block)=A.map (·.block)\/T.map (·.block)=none\/T.map (·.block)=some w.heap.size):=by
  rintro b rfl H;obtain⟨v',V,q,h2,G,_,f⟩:=run_append_own_at (P:=P) w base t ty e i z sz by' S hi x K h s M (.slice A n c) n xs W b m c' news p.1 H h1 X a v;rw[gj] at G;obtain⟨k,J⟩|⟨g,cap,cur,k,r⟩:=h2.2
  .subst k;refine⟨none,0,V,by rw[q,J],by rw[J];exact J ▸ h2,G,.inr (.inl rfl)⟩
  subst k;refine⟨_,_,V,q,h2,G, ?_⟩;obtain f|f:=f
  .exact .inl (by rw[<-gj _ (n+m) cap,f,gj])
  exact .inr (.inr (by rw[<-gj _ (n+m) cap,f]))
 obtain J|J:=a9 m
 .subst J;have y:news=[]:=s9 (by simpa using p.1);subst y
  cases B with
  |none=>exact⟨A,c,w,cu base t ty e i S hi _ n xs sz W c',by simpa using W,World.grownBy.refl _ _,.inl rfl⟩
  |some b=>exact fin b rfl (λj u hu=>by simp at hu)
 obtain⟨b,E,H⟩:=p.2 J;exact fin b E H
def qB{A:t6}{n c:Nat}{l:List UInt8}(h:Sl w A n 1 (jj l)):(Conv.bytesToString (wn A n c)).run P w=.ok (wt ⟨l.toArray⟩) w:=by
 have B:l.length=n:=by have:=h.1;rw[Tf] at this;omega
 cases A with
 |none=>
  have J:n=0:=by
   obtain J|J:=a9 n
   .exact J
   obtain⟨b,h1,_⟩:=h.2 J;cases h1
  have:l=[]:=s9 Z';subst this;simp[Conv.bytesToString,ByteArray.empty,ByteArray.emptyWithCapacity];rfl
 |some a=>
  have H:Rd w a (jj l):=by
   obtain J|J:=a9 n
   .have:l=[]:=s9 Z';subst this;intro j u hu;simp[jj] at hu
   obtain⟨b,h1,h2⟩:=h.2 J;injection h1 with h1;subst h1;exact h2
  have N:jj l=(l.map λc:UInt8=>(c.toNat:Int)).map (Value.int .u8):=by simp[jj]
  have d:=run_loadCells_list (P:=P) w a (jj l) H;rw[Tf,B,N] at d;rw[run_bytesToString w a n c _ d];congr 2;have:∀(l:List UInt8)(s:t7),(l.map λc:UInt8=>(c.toNat:Int)).foldl (λr n=>r.push (UInt8.ofNat n.toNat)) s=⟨s.data++l.toArray⟩:=by
   intro l
   induction l with
   |nil=>intro s;simp
   |cons c l W=>
    intro s;simp only[T_,Y7];rw[W];have:(s.push (UInt8.ofNat ((c.toNat:Int)).toNat)).data=s.data.push c:=by simp[ByteArray.push]
    rw[this];congr 1;apply C7;simp
  rw[this];congr 1;apply C7;simp[ByteArray.empty,ByteArray.emptyWithCapacity];rfl
def pb(I:Hp w0 H w){t e:TypeId}{s x:Operand}{i n c m c' sz by':Nat}{ag:Bool}{A B:Option Addr}{zc xs news:List Value}(hi:H[i]?=some (.row A n c e sz xs))(K:ev O s=.slice A n c)(C:ev O x=.slice B m c') (p:Sl w B m sz news)(S:P.underlying t=some (.slice e))(D:sd P e=some (sz,ag,by',zc))(f:zc.length=sz)(M:0<sz)(h1:(news.all Value.oneCell')=true) (X:n+m<=9223372036854775807)(a:(n+m)*by'<=140737488355328)(L:d<N) (k:∀T Y V,Hp w0 (H.set i (.row T (n+m) Y e sz (xs++news))) V->WL ro P N ops Q rest (vd O d (.slice T (n+m) Y)) V):
  WL ro P N ops Q (⟨some d,.call ⟨.builtin .append, #[s,x], #[t,t]⟩,ty,pos,af,none⟩::rest) O w:=by
 obtain⟨T,Y,V,g,W,b,j⟩:=tm (P:=P) w0.heap.size t ty e sz by' ag zc S D f M A n c xs (I.at_ hi) B m c' news p (by simpa using h1) (by unfold maxLen;omega) a I.size;refine Jb rfl rfl L (V:=V) (v:=.slice T (n+m) Y) ?_ (k T Y V (I.grown hi b j W));simp only[execOp,resolve,invoke,builtin,Sem.run_bind,Sem.run_pure,Result.andThen_ok,Q6,T_,f_,K,C,g]
def Jf(I:Hp w0 H w){t e:TypeId}{l g:Operand}{c m:IntKind}{L C:Int}{n sz by':Nat}{ag:Bool}{zc:List Value}(p:ev O l=.int c L)(E:ev O g=.int m C)(h:L=(n:Int))(M:C=(n:Int)) (S:P.underlying t=some (.slice e))(D:sd P e=some (sz,ag,by',zc))(f:zc.length=sz)(F:by'*n<=281474976710656)(X:n<=9223372036854775807)(o:d<N) (k:∀b V,Hp w0 (.row (some ⟨b,0,none⟩) n n e sz (hh n zc)::H) V->WL ro P N ops Q rest (vd O d (.slice (some ⟨b,0,none⟩) n n)) V):
  WL ro P N ops Q (⟨some d,.makeSlice t l g,ty,pos,af,none⟩::rest) O w:=by
 obtain⟨i,z,dd,hi,T,u,K,G,r,_⟩:=df D;subst h;subst M;obtain⟨V,q,W,s⟩:=run_make_full (P:=P) w w.heap.size t e i z sz S hi u K c m n (by rw[G];exact F) (by unfold maxLen;omega) (F' _);have A:(madeCells z.cells (n*sz)).toList=hh n zc:=(by exact I2);rw[A] at W;refine Jb rfl rfl o (V:=V) (v:=.slice (some ⟨w.heap.size,0,none⟩) n n) ?_ (k _ V (I.Ed ⟨s.os,s.tape,s.output,s.size,λj hj=>s.block j hj (by simp)⟩ W));simp[execOp,p,E,q]
def AA(I:Hp w0 H w){t e:TypeId}{sz by':Nat}{ag:Bool}{zc:List Value}(a:P.underlying t=some (.slice e))(D:sd P e=some (sz,ag,by',zc))(L:d<N) (k:∀b V,Hp w0 (.row (some ⟨b,0,none⟩) 0 0 e sz []::H) V->WL ro P N ops Q rest (vd O d (.slice (some ⟨b,0,none⟩) 0 0)) V):WL ro P N ops Q (⟨some d,.buildSlice t 0 #[],ty,pos,af,none⟩::rest) O w:=by
 refine Jb rfl rfl L (V:=w.alloc (.cells #[] e)) (v:=.slice (some ⟨w.heap.size,0,none⟩) 0 0) ?_ (k _ _ (I.CN e sz 0 [] (by simp) (by unfold maxLen;omega)));have S:Array.range 0= #[]:=rfl;simp[execOp,Instr.buildSlice,run_underlying a,qe D,Instr.fill,newRow,S]
def Pe{dd:Option Nat}{g:Option (Nat×Bool)}{s t e:TypeId}{x:Operand}{A:Option Addr}{n c:Nat}{l:List UInt8}(K:P.underlying s=some (.slice e))(he:P.underlying e=some (.int .u8))(S:P.underlying t=some .string) (C:ev O x=.slice A n c)(h:Sl w A n 1 (jj l)):(execOp (ev O) ⟨dd,.convert s t x,ty,pos,af,g⟩).run P w=.ok (.value (.string ⟨l.toArray⟩)) w:=by
 simp[execOp,C,run_convert_bytes_string w s t e A n c K he S,qB h]
def Wn(I:Hp w0 H w){s t e:TypeId}{x:Operand}{b:ByteArray}(K:P.underlying s=some .string)(S:P.underlying t=some (.slice e))(he:P.underlying e=some (.int .u8))(C:ev O x=.string b)(L:d<N) (k:∀g c ex V,Hp w0 (.blk g e (jj b.data.toList++ex) ((jj b.data.toList++ex).length,(jj b.data.toList++ex).length+1)::H) V->WL ro P N ops Q rest (vd O d (.slice (some ⟨g,0,none⟩) b.size c)) V):
  WL ro P N ops Q (⟨some d,.convert s t x,ty,pos,af,none⟩::rest) O w:=by
 let c:=grownCap w b.size 0 e
 let ex:List Value:=List.replicate (c-b.size) (.int .u8 0)
 let cells:List Value:=jj b.data.toList++ex
 let Z:=w.drew.alloc (.cells cells.toArray e)
 let V:=Z.freeze ⟨w.heap.size,cells.length,none⟩ 1
 have a:Z.heap[w.heap.size]?=some (.cells cells.toArray e (0,0)):=heap_alloc_new w.drew _;have F:V.heap[w.heap.size]?=some (.cells cells.toArray e (cells.length,cells.length+1)):=(by show(Z.heap.modify w.heap.size _)[w.heap.size]?=_;rw[Array.getElem?_modify,Q' rfl,a];simp);have Y:Below w.heap.size w V:=by
  refine⟨rfl,rfl,rfl, ?_,λj hj=> ?_⟩
  .show w.heap.size<=(Z.heap.modify w.heap.size _).size;rw[Array.size_modify];show w.heap.size<=Z.heap.size;simp[Z]
  show(Z.heap.modify w.heap.size _)[j]?=_;rw[Array.getElem?_modify,R' Z'];exact Below.heap_alloc w.drew _ j hj
 refine Jb rfl rfl L (V:=V) (v:=.slice (some ⟨w.heap.size,0,none⟩) b.size c) ?_ (k w.heap.size c ex V (I.Ed Y ⟨F' _,F,.inl (F' _)⟩));have f:(b.data.map λb=>Value.int .u8 b.toNat)++Array.replicate (c-b.size) (Value.int .u8 0)=cells.toArray:=(by apply C7;simp[cells,ex,jj]);have l:Z.shape? w.heap.size=some (e,cells.length):=by simp[World.shape?,a]
 have D:(choose (.appendCap b.size 0 e)).run P w=.ok c w.drew:=by simp[choose,Sem.run,Question.forced,grownCap,c]
 have p:(newRow e cells.toArray).run P w.drew=.ok ⟨w.heap.size,0,none⟩ Z:=by simp[newRow,Z]
 have h:(markStringish ⟨w.heap.size,0,none⟩).run P Z=.ok () V:=by simp[markStringish,shape,Sem.run,l,freeze,V]
 simp only[execOp,C,convert,Sem.run_bind,run_underlying K,run_underlying S,run_underlying he,Result.andThen_ok,Conv.stringToBytes];rw[D,Result.andThen_ok,f,p,Result.andThen_ok,h,Result.andThen_ok,Sem.run_pure,Result.andThen_ok,Sem.run_pure]
def RE(I:Hp w0 H w){t:TypeId}{x:Operand}{s:t7}(S:P.underlying t=some .string)(C:ev O x=wt s)(L:d<N) (k:∀b V,Hp w0 (.it b s 0::H) V->WL ro P N ops Q rest (vd O d (.pointer (some ⟨b,0,none⟩))) V):WL ro P N ops Q (⟨some d,.range t x,ty,pos,af,none⟩::rest) O w:=by
 refine Jb rfl rfl L (V:=w.alloc (.stringIter s 0)) (v:=.pointer (some ⟨w.heap.size,0,none⟩)) (by simp[execOp,C,Instr.range,run_underlying S]) (k _ _ (I.Ed ((Below.refl _ _).alloc (F' _) _) ⟨F' _,heap_alloc_new w _⟩))
def IE(I:Hp w0 H w){x:Operand}{i b p:Nat}{s:t7}(hi:H[i]?=some (.it b s p))(C:ev O x=.pointer (some ⟨b,0,none⟩))(hp:¬p<s.size)(L:d<N) (k:WL ro P N ops Q rest (vd O d (.tuple #[ww false])) w):WL ro P N ops Q (⟨some d,.next x true,ty,pos,af,none⟩::rest) O w:=by
 have h1:=(I.at_ hi).2;refine Jb rfl rfl L (V:=w) (v:=.tuple #[ww false]) ?_ k;simp[execOp,C,Instr.next,getObj,Sem.run,h1,hp]
def tE(I:Hp w0 H w){x:Operand}{i b p:Nat}{s:t7}{c:UInt8}(hi:H[i]?=some (.it b s p))(C:ev O x=.pointer (some ⟨b,0,none⟩))(j:s.data.toList[p]?=some c)(f:c.toNat<128)(L:d<N) (k:∀V,Hp w0 (H.set i (.it b s (p+1))) V->WL ro P N ops Q rest (vd O d (.tuple #[ww true,wd p,.int .i32 c.toNat])) V):WL ro P N ops Q (⟨some d,.next x true,ty,pos,af,none⟩::rest) O w:=by
 have h1:=(I.at_ hi).2;obtain⟨D,h⟩:=z'.1 j;have a:p<s.size:=by simpa using D
 have n:s.get! p=c:=(by have:s.get! p=s.data[p]! :=rfl;rw[this,getElem!_pos s.data p a];simpa using h);have g:Utf8.decode s p=(c.toNat,1):=(by unfold Utf8.decode;simp only[N9,n];rw[Q' f])
 let V:World:={ w with heap:=w.heap.setIfInBounds b (.stringIter s (p+1)) }
 have F:=de (I.at_ hi) (b:=b) rfl;have l:w.grownBy V (some b):=⟨rfl,rfl,rfl,by simp[V],λk _ E=>by
  show(w.heap.setIfInBounds b _)[k]?=_;rw[Array.getElem?_setIfInBounds_ne (λe=>E (by rw[e]))]⟩
 refine Jb rfl rfl L (V:=V) (v:=.tuple #[ww true,wd p,.int .i32 c.toNat]) ?_ (k V (I.grown hi l (.inl rfl) ⟨F.1, ?_⟩))
 .simp[execOp,C,Instr.next,getObj,setObj,Sem.run,h1,a,g,goInt,V]
 show(w.heap.setIfInBounds b _)[b]?=_;simp[F.2]
class UK(k:IntKind)(b:outParam Nat)(M:outParam Nat):Prop where
 bits:k.bits=b
 sgn:k.signed=false
 pow:2^b=M
instance:UK .u8 8 256:=⟨rfl,rfl,rfl⟩
instance:UK .u16 16 65536:=⟨rfl,rfl,rfl⟩
instance:UK .u32 32 4294967296:=⟨rfl,rfl,rfl⟩
instance:UK .u64 64 18446744073709551616:=⟨rfl,rfl,rfl⟩
def UK.wrap{k:IntKind}{b M:Nat}[h:UK k b M](n:Nat):k.wrap (n:Int)=((n % M:Nat):Int):=by
 unfold IntKind.wrap;have s:(2:Int)^k.bits=(M:Int):=by rw[h.bits,<-h.pow];simp
 simp only[h.sgn,s,k7];simp
def UK.jt{k:IntKind}{b M:Nat}[UK k b M]{n:Nat}(B:n<M):k.wrap (n:Int)=(n:Int):=by rw[UK.wrap,G_ B]
def UK.wrap_add{k:IntKind}{b M:Nat}[h:UK k b M](z:Int):k.wrap (z+M)=k.wrap z:=by
 unfold IntKind.wrap;have s:(2:Int)^k.bits=(M:Int):=by rw[h.bits,<-h.pow];simp
 simp[s]
variable {d:Option Nat}{q M a b:Nat}
def zg[UK k q M](C:ev O x=.int k (a:Int))(hy:ev O y=.int k (b:Int)):(execOp (ev O) ⟨d,.binOp .add t x y u,ty,pos,af,g⟩).run P w=.ok (.value (.int k (((a+b) % M:Nat):Int))) w:=by
 rw[aaD C hy,<-G9,UK.wrap]
def Rs[UK k q M](C:ev O x=.int k (a:Int))(hy:ev O y=.int k (b:Int))(F:b<=M):(execOp (ev O) ⟨d,.binOp .sub t x y u,ty,pos,af,g⟩).run P w=.ok (.value (.int k (((a+M-b) % M:Nat):Int))) w:=by
 rw[aaJ C hy,<-UK.wrap (k:=k)];have h:((a+M-b:Nat):Int)=(a:Int)-b+M:=Z';rw[h,UK.wrap_add]
def Fh[UK k q M](C:ev O x=.int k (a:Int))(hy:ev O y=.int k (b:Int)):(execOp (ev O) ⟨d,.binOp .mul t x y u,ty,pos,af,g⟩).run P w=.ok (.value (.int k (((a*b) % M:Nat):Int))) w:=by
 rw[TZ C hy,<-m_,UK.wrap]
def dK[UK k q M](C:ev O x=.int k (a:Int))(hy:ev O y=.int k (b:Int))(F:0<b)(c:a<M):(execOp (ev O) ⟨d,.binOp .quo t x y u,ty,pos,af,g⟩).run P w=.ok (.value (.int k ((a/b:Nat):Int))) w:=by
 rw[bU C hy Z',<-Int.ofNat_tdiv,UK.jt (X9 (B8 _ _) c)]
def ME(C:ev O x=.int k (a:Int))(hy:ev O y=.int k (b:Int))(F:0<b):(execOp (ev O) ⟨d,.binOp .rem t x y u,ty,pos,af,g⟩).run P w=.ok (.value (.int k ((a % b:Nat):Int))) w:=by
 rw[gR C hy Z',<-Int.ofNat_tmod]
def Oq(n:Nat)(a:Nat):BitVec.ofInt n (a:Int)=BitVec.ofNat n a:=by simp
def V1[h:UK k q M](C:ev O x=.int k (a:Int))(hy:ev O y=.int k (b:Int))(c:a<M)(F:b<M):(execOp (ev O) ⟨d,.binOp .or t x y u,ty,pos,af,g⟩).run P w=.ok (.value (.int k ((a|||b:Nat):Int))) w:=by
 rw[af4 C hy,Oq,Oq,BitVec.toNat_or,BitVec.toNat_ofNat,BitVec.toNat_ofNat,h.bits,h.pow,G_ c,G_ F,UK.jt];rw[<-h.pow] at c F |-;exact Nat.or_lt_two_pow c F
def tK[h:UK k q M](C:ev O x=.int k (a:Int))(hy:ev O y=.int k (b:Int))(c:a<M)(F:b<M):(execOp (ev O) ⟨d,.binOp .and t x y u,ty,pos,af,g⟩).run P w=.ok (.value (.int k ((a &&& b:Nat):Int))) w:=by
 rw[C1 C hy,Oq,Oq,BitVec.toNat_and,BitVec.toNat_ofNat,BitVec.toNat_ofNat,h.bits,h.pow,G_ c,G_ F,UK.jt];exact X9 Nat.and_le_left c
def qp[h:UK k q M]{c:IntKind}{s:Int}(C:ev O x=.int k (a:Int))(hy:ev O y=.int c s)(K:0<=s/\s<=q):(execOp (ev O) ⟨d,.binOp .shl t x y u,ty,pos,af,g⟩).run P w=.ok (.value (.int k (((a*2^s.toNat) % M:Nat):Int))) w:=by
 have e:(a:Int)*2^(min s.toNat k.bits)=((a*2^s.toNat:Nat):Int):=(by rw[h.bits,T9 Z',m_,y6];rfl);rw[OM C hy K.1,e,UK.wrap]
def Es[h:UK k q M]{c:IntKind}{s:Int}(C:ev O x=.int k (a:Int))(hy:ev O y=.int c s)(K:0<=s/\s<=q):(execOp (ev O) ⟨d,.binOp .shr t x y u,ty,pos,af,g⟩).run P w=.ok (.value (.int k ((a/2^s.toNat:Nat):Int))) w:=by
 rw[eU C hy K.1,h.bits,T9 Z',U5 _ (y7 (o8 Z'))];simp
def afl[UK k q M]{c:IntKind}{s m:Nat}(C:ev O x=.int k (a:Int))(hy:ev O y=.int c (s:Int))(K:s<=q)(hm:2^s=m):(execOp (ev O) ⟨d,.binOp .shl t x y u,ty,pos,af,g⟩).run P w=.ok (.value (.int k (((a*m) % M:Nat):Int))) w:=by
 rw[qp C hy Z',<-hm];rfl
def Xp[UK k q M]{c:IntKind}{s m:Nat}(C:ev O x=.int k (a:Int))(hy:ev O y=.int c (s:Int))(K:s<=q)(hm:2^s=m):(execOp (ev O) ⟨d,.binOp .shr t x y u,ty,pos,af,g⟩).run P w=.ok (.value (.int k ((a/m:Nat):Int))) w:=by
 rw[Es C hy Z',<-hm];rfl
def UQ[h:UK k q M](C:ev O x=.int k (a:Int))(b:a<=M):(execOp (ev O) ⟨d,.unOp .neg t x,ty,pos,af,g⟩).run P w=.ok (.value (.int k (((M-a) % M:Nat):Int))) w:=by
 rw[F1 C,<-UK.wrap (k:=k)];have e:((M-a:Nat):Int)= -(a:Int)+M:=Z';rw[e,UK.wrap_add]
def iX[UK k q M]{s t:TypeId}{c:IntKind}{b:TypeDesc}(K:P.underlying s=some b)(S:P.underlying t=some (.int k))(C:ev O x=.int c (a:Int)):(execOp (ev O) ⟨d,.convert s t x,ty,pos,af,g⟩).run P w=.ok (.value (.int k ((a % M:Nat):Int))) w:=by
 rw[Cl K S C,UK.wrap]
def LA[UK k q M]{s t:TypeId}{c:IntKind}{e:TypeDesc}(K:P.underlying s=some e)(S:P.underlying t=some (.int k))(C:ev O x=.int c (a:Int))(b:a<M):(execOp (ev O) ⟨d,.convert s t x,ty,pos,af,g⟩).run P w=.ok (.value (.int k (a:Int))) w:=by
 rw[Cl K S C,UK.jt b]
variable {a b:Int}
def xM(C:ev O x=.int k a)(hy:ev O y=.int k b):(execOp (ev O) ⟨d,.binOp .lss t x y u,ty,pos,af,g⟩).run P w=.ok (.value (ww (decide (a<b)))) w:=by
 by_cases h:a<b
 .rw[AX C hy h,w' h]
 rw[nX C hy h,m' h]
def SY(C:ev O x=.int k a)(hy:ev O y=.int k b):(execOp (ev O) ⟨d,.binOp .leq t x y u,ty,pos,af,g⟩).run P w=.ok (.value (ww (decide (a<=b)))) w:=by
 by_cases h:a<=b
 .rw[OW C hy h,w' h]
 rw[ZY C hy h,m' h]
def BL(C:ev O x=.int k a)(hy:ev O y=.int k b):(execOp (ev O) ⟨d,.binOp .gtr t x y u,ty,pos,af,g⟩).run P w=.ok (.value (ww (decide (b<a)))) w:=by
 by_cases h:b<a
 .rw[uX C hy h,w' h]
 rw[uW C hy h,m' h]
def SW(C:ev O x=.int k a)(hy:ev O y=.int k b):(execOp (ev O) ⟨d,.binOp .geq t x y u,ty,pos,af,g⟩).run P w=.ok (.value (ww (decide (b<=a)))) w:=by
 by_cases h:b<=a
 .rw[fY C hy h,w' h]
 rw[wY C hy h,m' h]
def iW(C:ev O x=.int k a)(hy:ev O y=.int k b):(execOp (ev O) ⟨d,.binOp .neq t x y u,ty,pos,af,g⟩).run P w=.ok (.value (ww (decide (a≠b)))) w:=by
 by_cases h:a=b
 .rw[wX C hy h,m' (by simpa using h)]
 rw[ZW C hy h,w' h]
variable {a b:Bool}
def yM(S:P.underlying t=some .bool)(C:ev O x=ww a)(hy:ev O y=ww b)(h:a=b):(execOp (ev O) ⟨d,.binOp .eql t x y u,ty,pos,af,g⟩).run P w=.ok (.value (ww true)) w:=by
 rw[Rx S C hy,h,beq_self_eq_true]
def wW(S:P.underlying t=some .bool)(C:ev O x=ww a)(hy:ev O y=ww b)(h:¬a=b):(execOp (ev O) ⟨d,.binOp .eql t x y u,ty,pos,af,g⟩).run P w=.ok (.value (ww false)) w:=by
 rw[Rx S C hy,beq_false_of_ne h]
def TL(S:P.underlying t=some .bool)(C:ev O x=ww a)(hy:ev O y=ww b)(h:¬a=b):(execOp (ev O) ⟨d,.binOp .neq t x y u,ty,pos,af,g⟩).run P w=.ok (.value (ww true)) w:=by
 rw[ki S C hy,bne,beq_false_of_ne h];rfl
def jZ(S:P.underlying t=some .bool)(C:ev O x=ww a)(hy:ev O y=ww b)(h:a=b):(execOp (ev O) ⟨d,.binOp .neq t x y u,ty,pos,af,g⟩).run P w=.ok (.value (ww false)) w:=by
 rw[ki S C hy,bne,h,beq_self_eq_true];rfl
def Eb{t e:TypeId}{x i:Operand}{b:Addr}{n c sz k:Nat}{p:IntKind}{m:Int}(S:P.underlying t=some (.slice e))(M:(P.info? e).map (·.size)=some sz)(C:ev O x=.slice (some b) n c)(hi:ev O i=.int p m) (hm:m=(k:Int))(h1:k<n):(execOp (ev O) ⟨d,.indexAddr t x i,ty,pos,af,g⟩).run P w=.ok (.value (.pointer (some (b.add (k*sz))))) w:=by
 rw[Vb S M C hi Z' Z',hm];rfl
def Cs{t e:TypeId}{x i:Operand}{b o n c sz k:Nat}{p:IntKind}{m:Int}(S:P.underlying t=some (.slice e))(M:(P.info? e).map (·.size)=some sz)(C:ev O x=.slice (some ⟨b,o,none⟩) n c)(hi:ev O i=.int p m) (hm:m=(k:Int))(h1:k<n):(execOp (ev O) ⟨d,.indexAddr t x i,ty,pos,af,g⟩).run P w=.ok (.value (.pointer (some ⟨b,o+k*sz,none⟩))) w:=by
 rw[Vb S M C hi Z' Z',hm,Fe];rfl
def jJ{t e:TypeId}{x i:Operand}{b:Addr}{n sz k:Nat}{p:IntKind}{m:Int}(S:P.underlying t=some (.array n e))(M:(P.info? e).map (·.size)=some sz)(C:ev O x=.pointer (some b))(hi:ev O i=.int p m) (hm:m=(k:Int))(h1:k<n):(execOp (ev O) ⟨d,.indexAddr t x i,ty,pos,af,g⟩).run P w=.ok (.value (.pointer (some (b.add (k*sz))))) w:=by
 obtain⟨i,H,v⟩:=y9.1 M;have h2:(k:Int)<n:=Z';subst hm;simp[execOp,C,hi,Instr.indexAt,asIntOf,run_underlying S,sizeOf,typeInfo,H,v,Instr.sureAddr,h1]
def cj{t e:TypeId}{x hi:Operand}{A:Option Addr}{n c h sz:Nat}{k:IntKind}{m:Int}(S:P.underlying t=some (.slice e))(M:(P.info? e).map (·.size)=some sz)(C:ev O x=.slice A n c)(f:ev O hi=.int k m) (hm:m=(h:Int))(h2:h<=c):(execOp (ev O) ⟨d,.slice t x none (some hi) none,ty,pos,af,g⟩).run P w=.ok (.value (.slice A h c)) w:=by
 rw[Th (lo:=none) (hi:=some hi) (l:=0) (h:=h) S M C rfl ⟨k,m,f,hm⟩ (N' _) h2];congr 3
 cases A with
 |none=>simp
 |some b=>simp[Addr.add]
def PJ{t e:TypeId}{x lo:Operand}{b o n c l sz:Nat}{k:IntKind}{m:Int}(S:P.underlying t=some (.slice e))(M:(P.info? e).map (·.size)=some sz)(C:ev O x=.slice (some ⟨b,o,none⟩) n c)(p:ev O lo=.int k m) (hm:m=(l:Int))(h1:l<=n)(h2:n<=c)(G:l<c):(execOp (ev O) ⟨d,.slice t x (some lo) none none,ty,pos,af,g⟩).run P w=.ok (.value (.slice (some ⟨b,o+l*sz,none⟩) (n-l) (c-l))) w:=by
 rw[Th (lo:=some lo) (hi:=none) (l:=l) (h:=n) S M C ⟨k,m,p,hm⟩ rfl h1 h2,R' Z'];simp only[n9,Fe]
def eH{t e:TypeId}{x lo:Operand}{b:Addr}{n c l sz:Nat}{k:IntKind}{m:Int}(S:P.underlying t=some (.slice e))(M:(P.info? e).map (·.size)=some sz)(C:ev O x=.slice (some b) n c)(p:ev O lo=.int k m) (hm:m=(l:Int))(h1:l<=n)(h2:n<=c)(G:l<c):(execOp (ev O) ⟨d,.slice t x (some lo) none none,ty,pos,af,g⟩).run P w=.ok (.value (.slice (some (b.add (l*sz))) (n-l) (c-l))) w:=by
 rw[Th (lo:=some lo) (hi:=none) (l:=l) (h:=n) S M C ⟨k,m,p,hm⟩ rfl h1 h2,R' Z'];rfl
def Rd.Dl{w:World}{b:Addr}{xs:List Value}{k:Nat}{v:Value}(h:Rd w b xs)(C:xs[k]?=some v):w.cell? (b.add (k*1))=some v:=by
 rw[W_];exact h k v C
def oc(l:t3):List Value:=l.map λ(d:Nat)=>.int .u64 (d:Int)
def La(l:t3):(oc l).length=l.length:=by simp[oc]
def oe{l:t3}{k d:Nat}(h:l[k]?=some d):(oc l)[k]?=some (.int .u64 (d:Int)):=by simp[oc,h]
def Og(l:t3)(k d:Nat):(oc l).set k (.int .u64 (d:Int))=oc (l.set k d):=by simp[oc,c9]
def AH(a b:t3):oc (a++b)=oc a++oc b:=by simp[oc]
def KB(a:t3)(k:Nat):oc (a.take k)=(oc a).take k:=by simp[oc,List.map_take]
def oD(a:t3)(k:Nat):oc (a.drop k)=(oc a).drop k:=by simp[oc,z7]
def Mb(l:t3):((oc l).all Value.oneCell')=true:=by simp[oc,Value.oneCell']
def ml(n:Nat):hh n [Value.int .u64 0]=oc (List.replicate n 0):=by rw[nt];simp[oc]
def Bh(l:t3):List Value:=l.map λ(d:Nat)=>.int .u8 (d:Int)
def Rc(l:t3):(Bh l).length=l.length:=by simp[Bh]
def qs{l:t3}{k d:Nat}(h:l[k]?=some d):(Bh l)[k]?=some (.int .u8 (d:Int)):=by simp[Bh,h]
def vt(l:t3)(k d:Nat):(Bh l).set k (.int .u8 (d:Int))=Bh (l.set k d):=by simp[Bh,c9]
def Fz(a b:t3):Bh (a++b)=Bh a++Bh b:=by simp[Bh]
def nI(a:t3)(k:Nat):Bh (a.take k)=(Bh a).take k:=by simp[Bh,List.map_take]
def kc(l:t3):((Bh l).all Value.oneCell')=true:=by simp[Bh,Value.oneCell']
def Vs(n:Nat):hh n [Value.int .u8 0]=Bh (List.replicate n 0):=by rw[nt];simp[Bh]
def qP{l:t3}(h:∀d∈l,d<256):Bh l=jj (l.map UInt8.ofNat):=by
 rw[Bh,jj,E_];apply J9;intro d T;have:=h d T;simp only[Function.comp,M6];congr 2;omega
def Sl.fP{w:World}{b:Addr}{n:Nat}{ys:t3}{k d:Nat}(h:Sl w (some b) n 1 (oc ys))(T:ys[k]?=some d):w.cell? (b.add (k*1))=some (.int .u64 (d:Int)):=by
 have Q:=h.1;have u:=(z'.1 T).1;rw[La] at Q;obtain⟨x,he,H⟩:=h.2 Z';injection he with he
 subst he;exact H.Dl (oe T)
def kE{pre done r post:t3}{x:Nat}:(pre++(done++x::r)++post)[pre.length+done.length]?=some x:=by
 rw[J_,R9 Z',J_,R9 Z'];simp
def xq{pre done r post:t3}{x y:Nat}:(pre++(done++x::r)++post).set (pre.length+done.length) y=pre++((done++[y])++r)++post:=by
 rw[J_,q8 _ _ Z',J_,q8 _ _ Z'];simp
def Cc{cs:List Value}{o:Nat}{v:Value}(h:o<cs.length):xb cs o [v]=cs.set o v:=by
 unfold xb;rw[J6,Q' h];simp
def Hp.front{w0 w:World}{H:List HE}{x:HE}(h:Hp w0 H w)(i:Nat)(hi:H[i]?=some x):Hp w0 (x::H.eraseIdx i) w:=by
 have hp:H.Perm (x::H.eraseIdx i):=by
  clear h
  induction H generalizing i with
  |nil=>simp at hi
  |cons y H W=>
   cases i with
   |zero=>simp at hi;subst hi;simp
   |succ i=>
    simp only[n7] at hi;simp only[List.eraseIdx_cons_succ];exact((W i hi).cons y).trans (List.Perm.swap x y _)
 exact⟨h.below,λy hy=>h.own y (hp.mem_iff.2 hy),(hp.filterMap _).nodup_iff.1 h.nd⟩
def Hp.AF{w0 w:World}{H:List HE}{A:t6}{n c:Nat}{t:TypeId}{sz:Nat}{xs:List Value}(h:Hp w0 (.row A n c t sz xs::H) w){k:Nat}(u:k<=n):Hp w0 (.row A k c t sz (xs.take (k*sz))::H) w:=by
 refine⟨h.below,λy hy=> ?_,h.nd⟩;obtain rfl|hy:=y'.1 hy
 .have h1:w.ownsRow w0.heap.size t sz (wn A n c) n xs:=h.own _ E';obtain⟨h2,G⟩:=h1;have s:k*sz<=n*sz:=n_ _ u;refine⟨by rw[q'];omega, ?_⟩;obtain⟨G,z⟩|⟨g,cap,cur,b,F,a,z,P,L,N⟩:=G
  .injection G with P L N
   subst P L N;exact .inl ⟨by rw[show k=0 by omega],Z'⟩
  injection b with B X l
  subst B;refine .inr ⟨g,cap,cur,by rw[l],F,a,Z',P,L, ?_⟩;rw[<-N,List.take_take,T9 s]
 exact h.own y (u' _ hy)
def Hp.pf{w0 w:World}{H:List HE}{A:t6}{n c:Nat}{t:TypeId}{sz:Nat}{xs:List Value}{i:Nat}(h:Hp w0 H w)(hi:H[i]?=some (.row A n c t sz xs)):n<=c:=by
 have h1:w.ownsRow w0.heap.size t sz (wn A n c) n xs:=h.at_ hi;obtain⟨G,z⟩|⟨g,cap,cur,a,F,s,z,P,L,N⟩:=h1.2
 .omega
 injection a with B X l
 omega
variable {d:Nat}
def tV{x:Operand}{v:Value}(C:ev O x=v)(L:d<N)(p:WL ro P N ops Q rest (vd O d v) w):
  WL ro P N ops Q (⟨some d,.assign x,ty,pos,af,none⟩::rest) O w:=Jb rfl rfl L (Sj C) p
variable {a:Int}
def acK(C:ev O x=wd a)(h1: -9223372036854775808<= -a)(h2: -a<=9223372036854775807)(L:d<N)(p:WL ro P N ops Q rest (vd O d (wd (-a))) w):
  WL ro P N ops Q (⟨some d,.unOp .neg t x,ty,pos,af,none⟩::rest) O w:=Jb rfl rfl L (Cn C h1 h2) p
variable {b:Int}
def abk(C:ev O x=wd a)(hy:ev O y=wd b)(M:0<=a)(F:0<b)(h2:a<=9223372036854775807)(L:d<N)(p:WL ro P N ops Q rest (vd O d (wd (a/b))) w):
  WL ro P N ops Q (⟨some d,.binOp .quo t x y u,ty,pos,af,none⟩::rest) O w:=Jb rfl rfl L (Lr C hy M F h2) p
def abx(C:ev O x=wd a)(hy:ev O y=wd b)(M:0<=a)(F:0<b)(L:d<N)(p:WL ro P N ops Q rest (vd O d (wd (a % b))) w):
  WL ro P N ops Q (⟨some d,.binOp .rem t x y u,ty,pos,af,none⟩::rest) O w:=Jb rfl rfl L (Oo C hy M F) p
def RJ{s t:TypeId}{x:Operand}{k c:IntKind}{a:Int}{b:TypeDesc}(K:P.underlying s=some b)(S:P.underlying t=some (.int k))(C:ev O x=.int c a)(L:d<N)(p:WL ro P N ops Q rest (vd O d (.int k (k.wrap a))) w):
  WL ro P N ops Q (⟨some d,.convert s t x,ty,pos,af,none⟩::rest) O w:=Jb rfl rfl L (Cl K S C) p
def uL{s t:TypeId}{x:Operand}{c:IntKind}{a:Int}{b:TypeDesc}(K:P.underlying s=some b)(S:P.underlying t=some (.int .i64))(C:ev O x=.int c a)(h1: -9223372036854775808<=a)(h2:a<=9223372036854775807)(L:d<N)(p:WL ro P N ops Q rest (vd O d (wd a)) w):
  WL ro P N ops Q (⟨some d,.convert s t x,ty,pos,af,none⟩::rest) O w:=Jb rfl rfl L (jh K S C h1 h2) p
def kO{x:Operand}{t:TypeId}{s:t7}(S:P.underlying t=some .string)(C:ev O x=wt s)(L:d<N)(p:WL ro P N ops Q rest (vd O d (wd s.size)) w):
  WL ro P N ops Q (⟨some d,.call ⟨.builtin .len, #[x], #[t]⟩,ty,pos,af,none⟩::rest) O w:=Jb rfl rfl L (Mv S C) p
def ae3{x y:Operand}{ts:Array TypeId}{k:IntKind}{a b:Int}(C:ev O x=.int k a)(hy:ev O y=.int k b)(L:d<N)(p:WL ro P N ops Q rest (vd O d (.int k (if b<a then b else a))) w):
  WL ro P N ops Q (⟨some d,.call ⟨.builtin .min, #[x,y],ts⟩,ty,pos,af,none⟩::rest) O w:=Jb rfl rfl L (adn C hy) p
def adr{x y:Operand}{ts:Array TypeId}{k:IntKind}{a b:Int}(C:ev O x=.int k a)(hy:ev O y=.int k b)(L:d<N)(p:WL ro P N ops Q rest (vd O d (.int k (if b>a then b else a))) w):
  WL ro P N ops Q (⟨some d,.call ⟨.builtin .max, #[x,y],ts⟩,ty,pos,af,none⟩::rest) O w:=Jb rfl rfl L (DS C hy) p
def YG{t:TypeId}{x i:Operand}{s:t7}{n:Int}{k:IntKind}{c:UInt8}(S:P.underlying t=some .string)(C:ev O x=wt s)(hi:ev O i=.int k n) (J:0<=n)(E:s.data.toList[n.toNat]?=some c)(L:d<N)(p:WL ro P N ops Q rest (vd O d (.int .u8 c.toNat)) w):
  WL ro P N ops Q (⟨some d,.index t x i,ty,pos,af,none⟩::rest) O w:=Jb rfl rfl L (ng S C hi J E) p
def IG{t e:TypeId}{x i:Operand}{b:Addr}{n c sz:Nat}{k:IntKind}{m:Int}(S:P.underlying t=some (.slice e))(M:(P.info? e).map (·.size)=some sz)(C:ev O x=.slice (some b) n c)(hi:ev O i=.int k m) (J:0<=m)(h1:m<n)(L:d<N)(p:WL ro P N ops Q rest (vd O d (.pointer (some (b.add (m.toNat*sz))))) w):
  WL ro P N ops Q (⟨some d,.indexAddr t x i,ty,pos,af,none⟩::rest) O w:=Jb rfl rfl L (Vb S M C hi J h1) p
def uK{t e:TypeId}{x i:Operand}{b n c sz k:Nat}{p:IntKind}{m:Int}(S:P.underlying t=some (.slice e))(M:(P.info? e).map (·.size)=some sz)(C:ev O x=.slice (some ⟨b,0,none⟩) n c)(hi:ev O i=.int p m) (hm:m=(k:Int))(h1:k<n)(L:d<N)(p:WL ro P N ops Q rest (vd O d (.pointer (some ⟨b,k*sz,none⟩))) w):
  WL ro P N ops Q (⟨some d,.indexAddr t x i,ty,pos,af,none⟩::rest) O w:=Jb rfl rfl L (Kc S M C hi hm h1) p
def abw{t:TypeId}{x:Operand}{b:Addr}{n by':Nat}{zc vs:List Value}(S:sd P t=some (n,true,by',zc))(C:ev O x=.pointer (some b))(H:Rd w b vs)(a:vs.length=n)(L:d<N)(p:WL ro P N ops Q rest (vd O d (.agg vs.toArray)) w):
  WL ro P N ops Q (⟨some d,.load t x,ty,pos,af,none⟩::rest) O w:=Jb rfl rfl L (Ua S C H a) p
def HW{t:TypeId}{x:Operand}{b:Addr}{n by':Nat}{zc:List Value}{v:Value}(S:sd P t=some (n,false,by',zc))(C:ev O x=.pointer (some b))(E:w.cell? b=some v)(L:d<N)(p:WL ro P N ops Q rest (vd O d v) w):
  WL ro P N ops Q (⟨some d,.load t x,ty,pos,af,none⟩::rest) O w:=Jb rfl rfl L (Ma S C E) p
def wD{s:TypeId}{x:Operand}{f off:Nat}{b:Addr}{q:TypeId}(Y:Qi P s f=some (off,q))(C:ev O x=.pointer (some b))(L:d<N)(p:WL ro P N ops Q rest (vd O d (.pointer (some (b.add off)))) w):
  WL ro P N ops Q (⟨some d,.fieldAddr s x f,ty,pos,af,none⟩::rest) O w:=Jb rfl rfl L (Zi Y C) p
def DY{s:TypeId}{x:Operand}{f off n by':Nat}{q:TypeId}{cs vs:Array Value}{zc:List Value}(Y:Qi P s f=some (off,q))(S:sd P q=some (n,true,by',zc))(C:ev O x=.agg cs)(A:cs.extract off (off+n)=vs)(L:d<N)(p:WL ro P N ops Q rest (vd O d (.agg vs)) w):
  WL ro P N ops Q (⟨some d,.field s x f,ty,pos,af,none⟩::rest) O w:=Jb rfl rfl L (nY Y S C A) p
def pO{t e:TypeId}{x i:Operand}{b:Addr}{n c sz k:Nat}{p:IntKind}{m:Int}(S:P.underlying t=some (.slice e))(M:(P.info? e).map (·.size)=some sz)(C:ev O x=.slice (some b) n c)(hi:ev O i=.int p m) (hm:m=(k:Int))(h1:k<n)(L:d<N)(p:WL ro P N ops Q rest (vd O d (.pointer (some (b.add (k*sz))))) w):
  WL ro P N ops Q (⟨some d,.indexAddr t x i,ty,pos,af,none⟩::rest) O w:=Jb rfl rfl L (Eb S M C hi hm h1) p
def sv{op:Op}{v:Value}(H:(execOp (ev O) ⟨some d,op,ty,pos,af,none⟩).run P w=.ok (.value v) w)(p:WL ro P N ops Q rest (vd O d v) w)(L:d<N:=by decide):WL ro P N ops Q (⟨some d,op,ty,pos,af,none⟩::rest) O w:=Jb rfl rfl L H p
def Oa:qw O []=[]:=rfl
def na{x:Operand}{l:List Operand}{v:Value}{r:List Value}(C:ev O x=v)(h:qw O l=r):qw O (x::l)=v::r:=by simp only[qw,C,h]
def Ld:ZI O []=[]:=rfl
def Bb{i:Nat}{x:Operand}{l:List (Nat×Operand)}{v:Value}{r:List (Nat×Value)}(C:ev O x=v)(h:ZI O l=r):ZI O ((i,x)::l)=(i,v)::r:=by simp only[ZI,C,h]
def Eo(P:Program)(f:FuncId):Bool:=match P.funcs[f]? with|some fn=> !fn.body.isNone && !(fn.name== "runtime.NumGoroutine")|none=>false
def PB{P:Program}{f:FuncId}(h:Eo P f=true):∃fn,P.funcs[f]?=some fn/\fn.body.isNone=false/\(fn.name== "runtime.NumGoroutine")=false:=by
 unfold Eo at h;split at h
 .rename_i fn Y;simp only[Z_,o7] at h;exact⟨fn,Y,h.1,h.2⟩
 cases h
def Ha{dd:Option Nat}{g:Option (Nat×Bool)}{f:FuncId}{args:Array Operand}{ts:Array TypeId}{vs:List Value}(Y:Eo P f=true)(M:qw O args.toList=vs):(execOp (ev O) ⟨dd,.call ⟨.value (.func f),args,ts⟩,ty,pos,af,g⟩).run P w=.ok (.enter f vs.toArray) w:=by
 obtain⟨fn,h1,h2,G⟩:=PB Y;have:=BR (P:=P) (w:=w) (d:=dd) (ty:=ty) (pos:=pos) (af:=af) (g:=g) (ts:=ts) h1 h2 G (show ev O (.func f)=.func (.func f) #[] #[] from rfl) (yq args M);simpa using this
def yO{dd:Option Nat}{g:Option (Nat×Bool)}{x:Operand}{f:FuncId}{args:Array Operand}{ts:Array TypeId}{first cap vs:List Value}(Y:Eo P f=true)(C:ev O x=.func (.func f) first.toArray cap.toArray)(M:first++(qw O args.toList++cap)=vs):(execOp (ev O) ⟨dd,.call ⟨.value x,args,ts⟩,ty,pos,af,g⟩).run P w=.ok (.enter f vs.toArray) w:=by
 obtain⟨fn,h1,h2,G⟩:=PB Y;have:=BR (P:=P) (w:=w) (d:=dd) (ty:=ty) (pos:=pos) (af:=af) (g:=g) (ts:=ts) h1 h2 G C (yq args rfl);subst M;simpa using this
def Lc{f:FuncId}{args:Array Operand}{ts:Array TypeId}{vs:List Value}{R:Ending->World->Prop}(E:Calls P f vs.toArray w R)(Y:Eo P f=true)(M:qw O args.toList=vs)(L:d<N) (p:∀e V,R e V->∃v,e=.returned v/\WL ro P N ops Q rest (vd O d v) V):WL ro P N ops Q (⟨some d,.call ⟨.value (.func f),args,ts⟩,ty,pos,af,none⟩::rest) O w:=
 pG rfl rfl L (Ha Y M) E p
def Mh{x:Operand}{f:FuncId}{args:Array Operand}{ts:Array TypeId}{first cap vs:List Value}{R:Ending->World->Prop}(E:Calls P f vs.toArray w R)(Y:Eo P f=true)(C:ev O x=.func (.func f) first.toArray cap.toArray)(M:first++(qw O args.toList++cap)=vs)(L:d<N) (p:∀e V,R e V->∃v,e=.returned v/\WL ro P N ops Q rest (vd O d v) V):WL ro P N ops Q (⟨some d,.call ⟨.value x,args,ts⟩,ty,pos,af,none⟩::rest) O w:=
 pG rfl rfl L (yO Y C M) E p
set_option maxRecDepth 100000
class Qa(P:Program)(t:TypeId)(d:outParam TypeDesc):Prop where out:P.underlying t=some d:=by kernel_rfl
class pa(P:Program)(t:TypeId)(n:outParam Nat)(ag:outParam Bool)(b:outParam Nat)(zc:outParam (List Value)):Prop where out:sd P t=some (n,ag,b,zc):=by kernel_rfl
class ae(P:Program)(s:TypeId)(f:Nat)(off:outParam Nat)(ft:outParam TypeId):Prop where out:Qi P s f=some (off,ft):=by kernel_rfl
class nj(P:Program)(s:TypeId)(pl:outParam (List (Nat×Nat))):Prop where out:Jz P s=some pl:=by kernel_rfl
class ma(P:Program)(f:FuncId):Prop where out:Eo P f=true:=by kernel_rfl
def fi{f:FuncId}(h:Eo P f=true:=by kernel_rfl):Eo P f=true:=h
def pa.size{t:TypeId}{b:Nat}[h:pa P t n ag b zc]:(P.info? t).map (·.size)=some n:=by
 obtain⟨i,z,d,hi,T,o,K,_⟩:=df h.out;rw[hi,n9,K]
instance:Qa prog 2 (.int .i64):={}
instance:pa prog 2 1 false 8 [wd 0]:={}
instance:Qa prog 3 (.int .i64):={}
instance:pa prog 3 1 false 8 [wd 0]:={}
instance:Qa prog 4 (.bool):={}
instance:pa prog 4 1 false 1 [ww false]:={}
instance:Qa prog 5 (.int .u8):={}
instance:pa prog 5 1 false 1 [.int .u8 0]:={}
instance:Qa prog 6 (.int .u8):={}
instance:pa prog 6 1 false 1 [.int .u8 0]:={}
instance:pa prog 7 4 true 24 [wd 0,wd 0,ww false,.int .u8 0]:={}
instance:ae prog 7 0 0 2:={}
instance:ae prog 7 1 1 3:={}
instance:ae prog 7 2 2 4:={}
instance:ae prog 7 3 3 6:={}
instance:nj prog 7 [(0,1),(1,1),(2,1),(3,1)]:={}
instance:pa prog 8 4 true 24 [wd 0,wd 0,ww false,.int .u8 0]:={}
instance:ae prog 8 0 0 2:={}
instance:ae prog 8 1 1 3:={}
instance:ae prog 8 2 2 4:={}
instance:ae prog 8 3 3 6:={}
instance:nj prog 8 [(0,1),(1,1),(2,1),(3,1)]:={}
instance:Qa prog 9 (.string):={}
instance:pa prog 9 1 false 16 [wt { data:= #[] }]:={}
instance:Qa prog 10 (.string):={}
instance:pa prog 10 1 false 16 [wt { data:= #[] }]:={}
instance:Qa prog 11 (.string):={}
instance:pa prog 11 1 false 16 [wt { data:= #[] }]:={}
instance:Qa prog 12 (.int .u64):={}
instance:pa prog 12 1 false 8 [.int .u64 0]:={}
instance:pa prog 13 2 true 24 [wt { data:= #[] },.int .u64 0]:={}
instance:ae prog 13 0 0 9:={}
instance:ae prog 13 1 1 12:={}
instance:nj prog 13 [(0,1),(1,1)]:={}
instance:pa prog 14 2 true 24 [wt { data:= #[] },.int .u64 0]:={}
instance:ae prog 14 0 0 9:={}
instance:ae prog 14 1 1 12:={}
instance:nj prog 14 [(0,1),(1,1)]:={}
instance:Qa prog 15 (.pointer 347):={}
instance:pa prog 15 1 false 8 [.pointer none]:={}
instance:Qa prog 16 (.pointer 350):={}
instance:pa prog 16 1 false 8 [.pointer none]:={}
instance:Qa prog 17 (.pointer 359):={}
instance:pa prog 17 1 false 8 [.pointer none]:={}
instance:pa prog 18 1 true 8 [.pointer none]:={}
instance:ae prog 18 0 0 17:={}
instance:nj prog 18 [(0,1)]:={}
instance:pa prog 19 1 true 8 [.pointer none]:={}
instance:ae prog 19 0 0 17:={}
instance:nj prog 19 [(0,1)]:={}
instance:Qa prog 21 (.int .i32):={}
instance:pa prog 21 1 false 4 [.int .i32 0]:={}
instance:Qa prog 22 (.slice 72):={}
instance:pa prog 22 1 false 24 [wn none 0 0]:={}
instance:pa prog 23 2 true 32 [wd 0,wn none 0 0]:={}
instance:ae prog 23 0 0 3:={}
instance:ae prog 23 1 1 22:={}
instance:nj prog 23 [(0,1),(1,1)]:={}
instance:pa prog 24 2 true 32 [wd 0,wn none 0 0]:={}
instance:ae prog 24 0 0 3:={}
instance:ae prog 24 1 1 22:={}
instance:nj prog 24 [(0,1),(1,1)]:={}
instance:Qa prog 25 (.slice 36):={}
instance:pa prog 25 1 false 24 [wn none 0 0]:={}
instance:Qa prog 26 (.slice 36):={}
instance:pa prog 26 1 false 24 [wn none 0 0]:={}
instance:pa prog 27 2 true 24 [ww false,wt { data:= #[] }]:={}
instance:ae prog 27 0 0 4:={}
instance:ae prog 27 1 1 9:={}
instance:nj prog 27 [(0,1),(1,1)]:={}
instance:pa prog 28 2 true 24 [ww false,wt { data:= #[] }]:={}
instance:ae prog 28 0 0 4:={}
instance:ae prog 28 1 1 9:={}
instance:nj prog 28 [(0,1),(1,1)]:={}
instance:pa prog 29 3 true 32 [ww false,wt { data:= #[] },wd 0]:={}
instance:ae prog 29 0 0 28:={}
instance:ae prog 29 1 2 3:={}
instance:nj prog 29 [(0,2),(2,1)]:={}
instance:pa prog 30 3 true 32 [ww false,wt { data:= #[] },wd 0]:={}
instance:ae prog 30 0 0 28:={}
instance:ae prog 30 1 2 3:={}
instance:nj prog 30 [(0,2),(2,1)]:={}
instance:pa prog 35 6 true 64 [ww false,wt { data:= #[] },wd 0,ww false,wt { data:= #[] },wd 0]:={}
instance:ae prog 35 0 0 30:={}
instance:ae prog 35 1 3 30:={}
instance:nj prog 35 [(0,3),(3,3)]:={}
instance:pa prog 36 6 true 64 [ww false,wt { data:= #[] },wd 0,ww false,wt { data:= #[] },wd 0]:={}
instance:ae prog 36 0 0 30:={}
instance:ae prog 36 1 3 30:={}
instance:nj prog 36 [(0,3),(3,3)]:={}
instance:Qa prog 37 (.slice 30):={}
instance:pa prog 37 1 false 24 [wn none 0 0]:={}
instance:Qa prog 38 (.slice 30):={}
instance:pa prog 38 1 false 24 [wn none 0 0]:={}
instance:pa prog 39 8 true 96 [wd 0,ww false,wt { data:= #[] },wd 0,ww false,wt { data:= #[] },wd 0,wn none 0 0]:={}
instance:ae prog 39 0 0 3:={}
instance:ae prog 39 1 1 36:={}
instance:ae prog 39 2 7 38:={}
instance:nj prog 39 [(0,1),(1,6),(7,1)]:={}
instance:pa prog 40 8 true 96 [wd 0,ww false,wt { data:= #[] },wd 0,ww false,wt { data:= #[] },wd 0,wn none 0 0]:={}
instance:ae prog 40 0 0 3:={}
instance:ae prog 40 1 1 36:={}
instance:ae prog 40 2 7 38:={}
instance:nj prog 40 [(0,1),(1,6),(7,1)]:={}
instance:Qa prog 41 (.int .i64):={}
instance:pa prog 41 1 false 8 [wd 0]:={}
instance:Qa prog 47 (.slice 24):={}
instance:pa prog 47 1 false 24 [wn none 0 0]:={}
instance:Qa prog 48 (.slice 5):={}
instance:pa prog 48 1 false 24 [wn none 0 0]:={}
instance:Qa prog 55 (.slice 60):={}
instance:pa prog 55 1 false 24 [wn none 0 0]:={}
instance:pa prog 59 5 true 64 [wd 0,wn none 0 0,ww false,wt { data:= #[] },wd 0]:={}
instance:ae prog 59 0 0 3:={}
instance:ae prog 59 1 1 26:={}
instance:ae prog 59 2 2 30:={}
instance:nj prog 59 [(0,1),(1,1),(2,3)]:={}
instance:pa prog 60 5 true 64 [wd 0,wn none 0 0,ww false,wt { data:= #[] },wd 0]:={}
instance:ae prog 60 0 0 3:={}
instance:ae prog 60 1 1 26:={}
instance:ae prog 60 2 2 30:={}
instance:nj prog 60 [(0,1),(1,1),(2,3)]:={}
instance:pa prog 71 4 true 48 [wt { data:= #[] },ww false,wt { data:= #[] },wd 0]:={}
instance:ae prog 71 0 0 9:={}
instance:ae prog 71 1 1 30:={}
instance:nj prog 71 [(0,1),(1,3)]:={}
instance:pa prog 72 4 true 48 [wt { data:= #[] },ww false,wt { data:= #[] },wd 0]:={}
instance:ae prog 72 0 0 9:={}
instance:ae prog 72 1 1 30:={}
instance:nj prog 72 [(0,1),(1,3)]:={}
instance:Qa prog 76 (.slice 3):={}
instance:pa prog 76 1 false 24 [wn none 0 0]:={}
instance:pa prog 77 2 true 48 [wn none 0 0,wn none 0 0]:={}
instance:ae prog 77 0 0 76:={}
instance:ae prog 77 1 1 37:={}
instance:nj prog 77 [(0,1),(1,1)]:={}
instance:pa prog 78 2 true 48 [wn none 0 0,wn none 0 0]:={}
instance:ae prog 78 0 0 76:={}
instance:ae prog 78 1 1 37:={}
instance:nj prog 78 [(0,1),(1,1)]:={}
instance:pa prog 83 5 true 120 [wn none 0 0,wn none 0 0,wn none 0 0,wn none 0 0,wn none 0 0]:={}
instance:ae prog 83 0 0 26:={}
instance:ae prog 83 1 1 78:={}
instance:ae prog 83 2 3 78:={}
instance:nj prog 83 [(0,1),(1,2),(3,2)]:={}
instance:pa prog 84 5 true 120 [wn none 0 0,wn none 0 0,wn none 0 0,wn none 0 0,wn none 0 0]:={}
instance:ae prog 84 0 0 26:={}
instance:ae prog 84 1 1 78:={}
instance:ae prog 84 2 3 78:={}
instance:nj prog 84 [(0,1),(1,2),(3,2)]:={}
instance:Qa prog 87 (.slice 84):={}
instance:pa prog 87 1 false 24 [wn none 0 0]:={}
instance:Qa prog 95 (.slice 78):={}
instance:pa prog 95 1 false 24 [wn none 0 0]:={}
instance:Qa prog 99 (.slice 26):={}
instance:pa prog 99 1 false 24 [wn none 0 0]:={}
instance:Qa prog 122 (.int .i64):={}
instance:pa prog 122 1 false 8 [wd 0]:={}
instance:pa prog 123 5 true 56 [wd 0,ww false,wt { data:= #[] },ww false,wt { data:= #[] }]:={}
instance:ae prog 123 0 0 122:={}
instance:ae prog 123 1 1 28:={}
instance:ae prog 123 2 3 28:={}
instance:nj prog 123 [(0,1),(1,2),(3,2)]:={}
instance:pa prog 124 5 true 56 [wd 0,ww false,wt { data:= #[] },ww false,wt { data:= #[] }]:={}
instance:ae prog 124 0 0 122:={}
instance:ae prog 124 1 1 28:={}
instance:ae prog 124 2 3 28:={}
instance:nj prog 124 [(0,1),(1,2),(3,2)]:={}
instance:Qa prog 128 (.slice 130):={}
instance:pa prog 128 1 false 24 [wn none 0 0]:={}
instance:pa prog 129 1 true 24 [wn none 0 0]:={}
instance:ae prog 129 0 0 37:={}
instance:nj prog 129 [(0,1)]:={}
instance:pa prog 130 1 true 24 [wn none 0 0]:={}
instance:ae prog 130 0 0 37:={}
instance:nj prog 130 [(0,1)]:={}
instance:Qa prog 147 (.slice 9):={}
instance:pa prog 147 1 false 24 [wn none 0 0]:={}
instance:pa prog 158 6 true 64 [ww false,wt { data:= #[] },wd 0,ww false,wt { data:= #[] },wd 0]:={}
instance:ae prog 158 0 0 36:={}
instance:nj prog 158 [(0,6)]:={}
instance:pa prog 159 6 true 64 [ww false,wt { data:= #[] },wd 0,ww false,wt { data:= #[] },wd 0]:={}
instance:ae prog 159 0 0 36:={}
instance:nj prog 159 [(0,6)]:={}
instance:Qa prog 172 (.slice 37):={}
instance:pa prog 172 1 false 24 [wn none 0 0]:={}
instance:pa prog 179 9 true 96 [ww false,wt { data:= #[] },wd 0,ww false,wt { data:= #[] },wd 0,ww false,wt { data:= #[] },wd 0]:={}
instance:ae prog 179 0 0 36:={}
instance:ae prog 179 1 6 30:={}
instance:nj prog 179 [(0,6),(6,3)]:={}
instance:pa prog 180 9 true 96 [ww false,wt { data:= #[] },wd 0,ww false,wt { data:= #[] },wd 0,ww false,wt { data:= #[] },wd 0]:={}
instance:ae prog 180 0 0 36:={}
instance:ae prog 180 1 6 30:={}
instance:nj prog 180 [(0,6),(6,3)]:={}
instance:Qa prog 186 (.pointer 130):={}
instance:pa prog 186 1 false 8 [.pointer none]:={}
instance:pa prog 195 2 true 16 [wd 0,wd 0]:={}
instance:ae prog 195 0 0 3:={}
instance:ae prog 195 1 1 3:={}
instance:nj prog 195 [(0,1),(1,1)]:={}
instance:pa prog 196 2 true 16 [wd 0,wd 0]:={}
instance:ae prog 196 0 0 3:={}
instance:ae prog 196 1 1 3:={}
instance:nj prog 196 [(0,1),(1,1)]:={}
instance:Qa prog 215 (.slice 28):={}
instance:pa prog 215 1 false 24 [wn none 0 0]:={}
instance:Qa prog 216 (.string):={}
instance:pa prog 216 1 false 16 [wt { data:= #[] }]:={}
instance:pa prog 217 2 true 24 [wt { data:= #[] },ww false]:={}
instance:ae prog 217 0 0 216:={}
instance:ae prog 217 1 1 4:={}
instance:nj prog 217 [(0,1),(1,1)]:={}
instance:pa prog 218 2 true 24 [wt { data:= #[] },ww false]:={}
instance:ae prog 218 0 0 216:={}
instance:ae prog 218 1 1 4:={}
instance:nj prog 218 [(0,1),(1,1)]:={}
instance:Qa prog 223 (.int .u64):={}
instance:pa prog 223 1 false 8 [.int .u64 0]:={}
instance:Qa prog 232 (.slice 276):={}
instance:pa prog 232 1 false 24 [wn none 0 0]:={}
instance:Qa prog 238 (.slice 215):={}
instance:pa prog 238 1 false 24 [wn none 0 0]:={}
instance:pa prog 255 6 true 64 [ww false,wt { data:= #[] },wd 0,ww false,wt { data:= #[] },wd 0]:={}
instance:ae prog 255 0 0 30:={}
instance:ae prog 255 1 3 30:={}
instance:nj prog 255 [(0,3),(3,3)]:={}
instance:pa prog 256 6 true 64 [ww false,wt { data:= #[] },wd 0,ww false,wt { data:= #[] },wd 0]:={}
instance:ae prog 256 0 0 30:={}
instance:ae prog 256 1 3 30:={}
instance:nj prog 256 [(0,3),(3,3)]:={}
instance:Qa prog 265 (.slice 223):={}
instance:pa prog 265 1 false 24 [wn none 0 0]:={}
instance:Qa prog 266 (.slice 223):={}
instance:pa prog 266 1 false 24 [wn none 0 0]:={}
instance:pa prog 275 6 true 64 [ww false,wt { data:= #[] },wd 0,ww false,wt { data:= #[] },wd 0]:={}
instance:ae prog 275 0 0 30:={}
instance:ae prog 275 1 3 30:={}
instance:nj prog 275 [(0,3),(3,3)]:={}
instance:pa prog 276 6 true 64 [ww false,wt { data:= #[] },wd 0,ww false,wt { data:= #[] },wd 0]:={}
instance:ae prog 276 0 0 30:={}
instance:ae prog 276 1 3 30:={}
instance:nj prog 276 [(0,3),(3,3)]:={}
instance:Qa prog 298 (.array 64 5):={}
instance:pa prog 298 64 true 64 [.int .u8 0,.int .u8 0,.int .u8 0,.int .u8 0,.int .u8 0,.int .u8 0,.int .u8 0,.int .u8 0,.int .u8 0,.int .u8 0,.int .u8 0,.int .u8 0,.int .u8 0,.int .u8 0,.int .u8 0,.int .u8 0,.int .u8 0,.int .u8 0,.int .u8 0,.int .u8 0,.int .u8 0,.int .u8 0,.int .u8 0,.int .u8 0,.int .u8 0,.int .u8 0,.int .u8 0,.int .u8 0,.int .u8 0,.int .u8 0,.int .u8 0,.int .u8 0,.int .u8 0,.int .u8 0,.int .u8 0,.int .u8 0,.int .u8 0,.int .u8 0,.int .u8 0,.int .u8 0,.int .u8 0,.int .u8 0,.int .u8 0,.int .u8 0,.int .u8 0,.int .u8 0,.int .u8 0,.int .u8 0,.int .u8 0,.int .u8 0,.int .u8 0,.int .u8 0,.int .u8 0,.int .u8 0,.int .u8 0,.int .u8 0,.int .u8 0,.int .u8 0,.int .u8 0,.int .u8 0,.int .u8 0,.int .u8 0,.int .u8 0,.int .u8 0]:={}
instance:Qa prog 299 (.int .u64):={}
instance:pa prog 299 1 false 8 [.int .u64 0]:={}
instance:pa prog 310 2 true 48 [wn none 0 0,wn none 0 0]:={}
instance:ae prog 310 0 0 266:={}
instance:ae prog 310 1 1 266:={}
instance:nj prog 310 [(0,1),(1,1)]:={}
instance:pa prog 311 2 true 48 [wn none 0 0,wn none 0 0]:={}
instance:ae prog 311 0 0 266:={}
instance:ae prog 311 1 1 266:={}
instance:nj prog 311 [(0,1),(1,1)]:={}
instance:Qa prog 318 (.array 256 4):={}
instance:Qa prog 319 (.array 256 4):={}
instance:Qa prog 323 (.pointer 319):={}
instance:pa prog 323 1 false 8 [.pointer none]:={}
instance:Qa prog 338 (.array 256 5):={}
instance:pa prog 339 2 true 2 [.int .u8 0,.int .u8 0]:={}
instance:ae prog 339 0 0 5:={}
instance:ae prog 339 1 1 5:={}
instance:nj prog 339 [(0,1),(1,1)]:={}
instance:pa prog 340 2 true 2 [.int .u8 0,.int .u8 0]:={}
instance:ae prog 340 0 0 5:={}
instance:ae prog 340 1 1 5:={}
instance:nj prog 340 [(0,1),(1,1)]:={}
instance:Qa prog 341 (.array 16 340):={}
instance:pa prog 341 32 true 32 [.int .u8 0,.int .u8 0,.int .u8 0,.int .u8 0,.int .u8 0,.int .u8 0,.int .u8 0,.int .u8 0,.int .u8 0,.int .u8 0,.int .u8 0,.int .u8 0,.int .u8 0,.int .u8 0,.int .u8 0,.int .u8 0,.int .u8 0,.int .u8 0,.int .u8 0,.int .u8 0,.int .u8 0,.int .u8 0,.int .u8 0,.int .u8 0,.int .u8 0,.int .u8 0,.int .u8 0,.int .u8 0,.int .u8 0,.int .u8 0,.int .u8 0,.int .u8 0]:={}
instance:Qa prog 345 (.pointer 362):={}
instance:pa prog 345 1 false 8 [.pointer none]:={}
instance:pa prog 346 4 true 40 [.pointer none,.pointer none,.pointer none,wt { data:= #[] }]:={}
instance:ae prog 346 0 0 17:={}
instance:ae prog 346 1 1 17:={}
instance:ae prog 346 2 2 17:={}
instance:ae prog 346 3 3 9:={}
instance:nj prog 346 [(0,1),(1,1),(2,1),(3,1)]:={}
instance:pa prog 347 4 true 40 [.pointer none,.pointer none,.pointer none,wt { data:= #[] }]:={}
instance:ae prog 347 0 0 17:={}
instance:ae prog 347 1 1 17:={}
instance:ae prog 347 2 2 17:={}
instance:ae prog 347 3 3 9:={}
instance:nj prog 347 [(0,1),(1,1),(2,1),(3,1)]:={}
instance:Qa prog 348 (.array 0 16):={}
instance:pa prog 348 0 true 0 []:={}
instance:pa prog 349 0 true 0 []:={}
instance:nj prog 349 [(0,0)]:={}
instance:pa prog 350 0 true 0 []:={}
instance:nj prog 350 [(0,0)]:={}
instance:Qa prog 351 (.int .u32):={}
instance:pa prog 351 1 false 4 [.int .u32 0]:={}
instance:Qa prog 352 (.int .u8):={}
instance:pa prog 352 1 false 1 [.int .u8 0]:={}
instance:Qa prog 353 (.int .u8):={}
instance:pa prog 353 1 false 1 [.int .u8 0]:={}
instance:Qa prog 355 (.pointer 5):={}
instance:pa prog 355 1 false 8 [.pointer none]:={}
instance:Qa prog 356 (.int .i32):={}
instance:pa prog 356 1 false 4 [.int .i32 0]:={}
instance:Qa prog 357 (.int .i32):={}
instance:pa prog 357 1 false 4 [.int .i32 0]:={}
instance:pa prog 358 11 true 48 [.int .u64 0,.int .u64 0,.int .u32 0,.int .u8 0,.int .u8 0,.int .u8 0,.int .u8 0,.nilFunc,.pointer none,.int .i32 0,.int .i32 0]:={}
instance:pa prog 359 11 true 48 [.int .u64 0,.int .u64 0,.int .u32 0,.int .u8 0,.int .u8 0,.int .u8 0,.int .u8 0,.nilFunc,.pointer none,.int .i32 0,.int .i32 0]:={}
instance:pa prog 361 1 true 16 [wt { data:= #[] }]:={}
instance:ae prog 361 0 0 9:={}
instance:nj prog 361 [(0,1)]:={}
instance:pa prog 362 1 true 16 [wt { data:= #[] }]:={}
instance:ae prog 362 0 0 9:={}
instance:nj prog 362 [(0,1)]:={}
def mixed:prog.follows .mixedOrders=true:=by kernel_rfl
instance:ma prog 3:={}
instance:ma prog 4:={}
instance:ma prog 5:={}
instance:ma prog 6:={}
instance:ma prog 7:={}
instance:ma prog 8:={}
instance:ma prog 9:={}
instance:ma prog 10:={}
instance:ma prog 11:={}
instance:ma prog 12:={}
instance:ma prog 13:={}
instance:ma prog 14:={}
instance:ma prog 15:={}
instance:ma prog 16:={}
instance:ma prog 17:={}
instance:ma prog 18:={}
instance:ma prog 19:={}
instance:ma prog 20:={}
instance:ma prog 21:={}
instance:ma prog 22:={}
instance:ma prog 23:={}
instance:ma prog 24:={}
instance:ma prog 25:={}
instance:ma prog 26:={}
instance:ma prog 27:={}
instance:ma prog 28:={}
instance:ma prog 29:={}
instance:ma prog 30:={}
instance:ma prog 31:={}
instance:ma prog 32:={}
instance:ma prog 33:={}
instance:ma prog 34:={}
instance:ma prog 35:={}
instance:ma prog 36:={}
instance:ma prog 37:={}
instance:ma prog 38:={}
instance:ma prog 39:={}
instance:ma prog 40:={}
instance:ma prog 41:={}
instance:ma prog 42:={}
instance:ma prog 43:={}
instance:ma prog 44:={}
instance:ma prog 45:={}
instance:ma prog 46:={}
instance:ma prog 47:={}
instance:ma prog 48:={}
instance:ma prog 49:={}
instance:ma prog 50:={}
instance:ma prog 51:={}
instance:ma prog 52:={}
instance:ma prog 53:={}
instance:ma prog 54:={}
instance:ma prog 55:={}
instance:ma prog 56:={}
instance:ma prog 57:={}
instance:ma prog 58:={}
instance:ma prog 59:={}
instance:ma prog 60:={}
instance:ma prog 61:={}
instance:ma prog 62:={}
instance:ma prog 63:={}
instance:ma prog 64:={}
instance:ma prog 65:={}
instance:ma prog 66:={}
instance:ma prog 67:={}
instance:ma prog 68:={}
instance:ma prog 69:={}
instance:ma prog 70:={}
instance:ma prog 71:={}
instance:ma prog 72:={}
instance:ma prog 73:={}
instance:ma prog 74:={}
instance:ma prog 75:={}
instance:ma prog 76:={}
instance:ma prog 77:={}
instance:ma prog 78:={}
instance:ma prog 79:={}
instance:ma prog 80:={}
instance:ma prog 81:={}
instance:ma prog 82:={}
instance:ma prog 83:={}
instance:ma prog 84:={}
instance:ma prog 85:={}
instance:ma prog 86:={}
instance:ma prog 87:={}
instance:ma prog 88:={}
instance:ma prog 89:={}
instance:ma prog 90:={}
instance:ma prog 91:={}
instance:ma prog 92:={}
instance:ma prog 93:={}
instance:ma prog 94:={}
instance:ma prog 95:={}
instance:ma prog 96:={}
instance:ma prog 97:={}
instance:ma prog 98:={}
instance:ma prog 99:={}
instance:ma prog 100:={}
instance:ma prog 101:={}
instance:ma prog 102:={}
instance:ma prog 103:={}
instance:ma prog 104:={}
instance:ma prog 105:={}
instance:ma prog 106:={}
instance:ma prog 107:={}
instance:ma prog 108:={}
instance:ma prog 109:={}
instance:ma prog 110:={}
instance:ma prog 111:={}
instance:ma prog 112:={}
instance:ma prog 113:={}
instance:ma prog 114:={}
instance:ma prog 115:={}
instance:ma prog 116:={}
instance:ma prog 117:={}
instance:ma prog 118:={}
instance:ma prog 119:={}
instance:ma prog 120:={}
instance:ma prog 121:={}
instance:ma prog 122:={}
instance:ma prog 123:={}
instance:ma prog 124:={}
instance:ma prog 125:={}
instance:ma prog 126:={}
instance:ma prog 127:={}
instance:ma prog 128:={}
instance:ma prog 129:={}
instance:ma prog 130:={}
instance:ma prog 131:={}
instance:ma prog 132:={}
instance:ma prog 133:={}
instance:ma prog 134:={}
instance:ma prog 135:={}
instance:ma prog 136:={}
instance:ma prog 137:={}
instance:ma prog 138:={}
instance:ma prog 139:={}
instance:ma prog 140:={}
instance:ma prog 141:={}
instance:ma prog 142:={}
instance:ma prog 143:={}
instance:ma prog 144:={}
instance:ma prog 145:={}
instance:ma prog 146:={}
instance:ma prog 147:={}
instance:ma prog 148:={}
instance:ma prog 149:={}
instance:ma prog 150:={}
instance:ma prog 151:={}
instance:ma prog 152:={}
instance:ma prog 153:={}
instance:ma prog 154:={}
instance:ma prog 155:={}
instance:ma prog 156:={}
instance:ma prog 157:={}
instance:ma prog 158:={}
instance:ma prog 159:={}
instance:ma prog 160:={}
instance:ma prog 161:={}
instance:ma prog 162:={}
instance:ma prog 163:={}
instance:ma prog 164:={}
instance:ma prog 165:={}
instance:ma prog 166:={}
instance:ma prog 167:={}
instance:ma prog 168:={}
instance:ma prog 169:={}
instance:ma prog 170:={}
instance:ma prog 171:={}
instance:ma prog 172:={}
instance:ma prog 173:={}
instance:ma prog 174:={}
instance:ma prog 175:={}
instance:ma prog 176:={}
instance:ma prog 177:={}
instance:ma prog 178:={}
instance:ma prog 179:={}
instance:ma prog 180:={}
instance:ma prog 181:={}
instance:ma prog 182:={}
instance:ma prog 183:={}
instance:ma prog 184:={}
instance:ma prog 185:={}
instance:ma prog 186:={}
instance:ma prog 187:={}
instance:ma prog 188:={}
instance:ma prog 189:={}
instance:ma prog 190:={}
instance:ma prog 191:={}
instance:ma prog 192:={}
instance:ma prog 193:={}
instance:ma prog 194:={}
instance:ma prog 195:={}
instance:ma prog 196:={}
instance:ma prog 197:={}
instance:ma prog 198:={}
instance:ma prog 199:={}
instance:ma prog 200:={}
instance:ma prog 201:={}
instance:ma prog 202:={}
instance:ma prog 203:={}
instance:ma prog 204:={}
instance:ma prog 205:={}
instance:ma prog 206:={}
instance:ma prog 207:={}
instance:ma prog 208:={}
instance:ma prog 209:={}
instance:ma prog 210:={}
instance:ma prog 211:={}
instance:ma prog 212:={}
instance:ma prog 213:={}
instance:ma prog 214:={}
instance:ma prog 215:={}
instance:ma prog 216:={}
instance:ma prog 217:={}
instance:ma prog 218:={}
instance:ma prog 219:={}
instance:ma prog 220:={}
instance:ma prog 221:={}
instance:ma prog 222:={}
instance:ma prog 223:={}
instance:ma prog 224:={}
instance:ma prog 225:={}
instance:ma prog 226:={}
instance:ma prog 227:={}
instance:ma prog 228:={}
instance:ma prog 229:={}
instance:ma prog 230:={}
instance:ma prog 231:={}
instance:ma prog 232:={}
instance:ma prog 233:={}
instance:ma prog 234:={}
instance:ma prog 235:={}
instance:ma prog 236:={}
instance:ma prog 237:={}
instance:ma prog 238:={}
instance:ma prog 239:={}
instance:ma prog 240:={}
instance:ma prog 241:={}
instance:ma prog 242:={}
instance:ma prog 243:={}
instance:ma prog 244:={}
instance:ma prog 245:={}
instance:ma prog 246:={}
instance:ma prog 247:={}
instance:ma prog 248:={}
instance:ma prog 249:={}
instance:ma prog 250:={}
instance:ma prog 251:={}
instance:ma prog 252:={}
instance:ma prog 253:={}
instance:ma prog 254:={}
instance:ma prog 255:={}
instance:ma prog 256:={}
instance:ma prog 257:={}
instance:ma prog 258:={}
instance:ma prog 259:={}
instance:ma prog 260:={}
instance:ma prog 261:={}
instance:ma prog 262:={}
instance:ma prog 263:={}
instance:ma prog 264:={}
instance:ma prog 265:={}
instance:ma prog 266:={}
instance:ma prog 267:={}
instance:ma prog 268:={}
instance:ma prog 269:={}
instance:ma prog 270:={}
instance:ma prog 271:={}
instance:ma prog 272:={}
instance:ma prog 273:={}
instance:ma prog 274:={}
instance:ma prog 275:={}
instance:ma prog 276:={}
instance:ma prog 277:={}
instance:ma prog 278:={}
instance:ma prog 279:={}
instance:ma prog 280:={}
instance:ma prog 281:={}
instance:ma prog 282:={}
instance:ma prog 283:={}
instance:ma prog 284:={}
instance:ma prog 285:={}
instance:ma prog 286:={}
instance:ma prog 287:={}
instance:ma prog 288:={}
instance:ma prog 289:={}
instance:ma prog 290:={}
instance:ma prog 291:={}
instance:ma prog 292:={}
instance:ma prog 293:={}
instance:ma prog 294:={}
instance:ma prog 295:={}
instance:ma prog 296:={}
instance:ma prog 297:={}
instance:ma prog 298:={}
instance:ma prog 299:={}
instance:ma prog 300:={}
instance:ma prog 301:={}
instance:ma prog 302:={}
instance:ma prog 303:={}
instance:ma prog 304:={}
instance:ma prog 305:={}
instance:ma prog 306:={}
instance:ma prog 307:={}
instance:ma prog 308:={}
instance:ma prog 309:={}
instance:ma prog 312:={}
instance:ma prog 313:={}
instance:ma prog 314:={}
instance:ma prog 315:={}
instance:ma prog 316:={}
instance:ma prog 317:={}
instance:ma prog 318:={}
instance:ma prog 319:={}
instance:ma prog 320:={}
instance:ma prog 321:={}
instance:ma prog 322:={}
instance:ma prog 324:={}
instance:ma prog 325:={}
instance:ma prog 326:={}
instance:ma prog 327:={}
instance:ma prog 328:={}
instance:ma prog 329:={}
instance:ma prog 330:={}
instance:ma prog 331:={}
instance:ma prog 332:={}
instance:ma prog 333:={}
end Go.Proofs.YtbencocchdpikaaGreatDoor
