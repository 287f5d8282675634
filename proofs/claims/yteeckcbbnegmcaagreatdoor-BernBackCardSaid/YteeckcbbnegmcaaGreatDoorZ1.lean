/- Lemmas for bernBack, part 1. -/
import Derived.KernelRfl
import Derived.Test.YteeckcbbnegmcaaGreatDoorRows
import Derived.WalkKit
import Derived.ProofKit
import Derived.OpenShut
import Derived.Carry
import Derived.WalkLawsBesides
import Derived.Below
import Derived.Laws.OwnMore
import Derived.Laws.Rows
import Derived.RegionTactic
import Derived.ControlIn
import Derived.TacticsIn
import Derived.AtR
import Derived.Deep.AppendLies
import Derived.Maps.AppendAt
import Derived.OwnWalk
namespace Go.Proofs.YteeckcbbnegmcaaGreatDoor
open Go.ChangeShapes Go.WideShapes Go.ChangeAt Go.RowKit
theorem T2 : type_of% @if_pos := @if_pos
theorem T3 : type_of% @if_neg := @if_neg
theorem T4 : type_of% @List.Sublist.cons_cons := @List.Sublist.cons_cons
theorem T5 : type_of% @Nat.le_refl := @Nat.le_refl
theorem T6 : type_of% @Nat.zero_le := @Nat.zero_le
theorem T7 : type_of% @List.mem_of_getElem? := @List.mem_of_getElem?
theorem T8 : type_of% @List.Sublist.cons := @List.Sublist.cons
theorem T9 : type_of% @List.take_of_length_le := @List.take_of_length_le
theorem Ua : type_of% @List.length_append := @List.length_append
theorem Ub : type_of% @List.nil_append := @List.nil_append
theorem Uc : type_of% @List.mem_cons_self := @List.mem_cons_self
theorem Ud : type_of% @List.cons_append := @List.cons_append
theorem Ue : type_of% @List.getElem?_map := @List.getElem?_map
theorem Uf : type_of% @List.mem_cons_of_mem := @List.mem_cons_of_mem
theorem Ug : type_of% @List.length_map := @List.length_map
theorem Uh : type_of% @List.set_cons_zero := @List.set_cons_zero
theorem Ui : type_of% @List.mem_map := @List.mem_map
theorem Uj : type_of% @Bool.and_eq_true := @Bool.and_eq_true
theorem Uk : type_of% @List.getElem?_eq_some_iff := @List.getElem?_eq_some_iff
theorem Ul : type_of% @List.mem_cons := @List.mem_cons
theorem Um : type_of% @decide_eq_true := @decide_eq_true
theorem Un : type_of% @List.mem_singleton := @List.mem_singleton
theorem Uo : type_of% @Nat.mul_one := @Nat.mul_one
theorem Up : type_of% @decide_eq_true_eq := @decide_eq_true_eq
theorem Uq : type_of% @List.length_cons := @List.length_cons
theorem Ur : type_of% @Nat.le_trans := @Nat.le_trans
theorem Us : type_of% @List.length_take := @List.length_take
theorem Ut : type_of% @List.map_cons := @List.map_cons
theorem Uu : type_of% @Nat.pow_add := @Nat.pow_add
theorem Uv : type_of% @Nat.zero_add := @Nat.zero_add
theorem Uw : type_of% @Nat.mod_lt := @Nat.mod_lt
theorem Ux : type_of% @List.all_eq_true := @List.all_eq_true
theorem Uy : type_of% @List.getElem?_eq_none := @List.getElem?_eq_none
theorem Uz : type_of% @Nat.mul_le_mul_left := @Nat.mul_le_mul_left
theorem UA : type_of% @List.Sublist.slnil := @List.Sublist.slnil
theorem UB : type_of% @decide_eq_false := @decide_eq_false
theorem UC : type_of% @Nat.mul_comm := @Nat.mul_comm
theorem UD : type_of% @List.mem_append := @List.mem_append
theorem UE : type_of% @Nat.pow_pos := @Nat.pow_pos
theorem UF : type_of% @List.append_nil := @List.append_nil
theorem UG : type_of% @Nat.mod_eq_of_lt := @Nat.mod_eq_of_lt
theorem UH : type_of% @List.set_cons_succ := @List.set_cons_succ
theorem UI : type_of% @List.append_assoc := @List.append_assoc
theorem UJ : type_of% @List.length_reverse := @List.length_reverse
theorem UL : type_of% @Nat.pow_le_pow_right := @Nat.pow_le_pow_right
theorem UM : type_of% @List.sublist_cons_self := @List.sublist_cons_self
theorem UN : type_of% @Option.some.inj := @Option.some.inj
theorem UO : type_of% @Nat.pow_mul := @Nat.pow_mul
theorem UP : type_of% @Nat.lt_or_ge := @Nat.lt_or_ge
theorem UQ : type_of% @Nat.pow_succ := @Nat.pow_succ
theorem UR : type_of% @List.map_nil := @List.map_nil
theorem US : type_of% @Nat.mul_add := @Nat.mul_add
theorem UT : type_of% @List.mem_range := @List.mem_range
theorem UU : type_of% @List.map_append := @List.map_append
theorem UW : type_of% @Nat.sub_self := @Nat.sub_self
theorem UX : type_of% @Nat.mul_assoc := @Nat.mul_assoc
theorem UY : type_of% @List.getElem?_range := @List.getElem?_range
theorem UZ : type_of% @List.take_append_drop := @List.take_append_drop
theorem U0 : type_of% @Nat.min_eq_left := @Nat.min_eq_left
theorem U1 : type_of% @Nat.div_eq_of_lt := @Nat.div_eq_of_lt
theorem U2 : type_of% @Nat.mul_le_mul_right := @Nat.mul_le_mul_right
theorem U3 : type_of% @List.perm_middle := @List.perm_middle
theorem U4 : type_of% @Bool.false_or := @Bool.false_or
theorem U5 : type_of% @List.map_map := @List.map_map
theorem U6 : type_of% @Nat.lt_of_lt_of_le := @Nat.lt_of_lt_of_le
theorem U7 : type_of% @List.getD_eq_getElem?_getD := @List.getD_eq_getElem?_getD
theorem U8 : type_of% @Nat.lt_of_le_of_lt := @Nat.lt_of_le_of_lt
theorem U9 : type_of% @congrArg := @congrArg
theorem Va : type_of% @Nat.succ_mul := @Nat.succ_mul
theorem Vb : type_of% @Array.getD_eq_getD_getElem? := @Array.getD_eq_getD_getElem?
theorem Vd : type_of% @List.mem_filterMap := @List.mem_filterMap
theorem Ve : type_of% @List.ext_getElem? := @List.ext_getElem?
theorem Vf : type_of% @List.mem_filter := @List.mem_filter
theorem Vg : type_of% @List.getElem?_append_right := @List.getElem?_append_right
theorem Vh : type_of% @List.nil_sublist := @List.nil_sublist
theorem Vi : type_of% @List.Sublist.refl := @List.Sublist.refl
theorem Vj : type_of% @List.drop_eq_getElem_cons := @List.drop_eq_getElem_cons
theorem Vk : type_of% @Nat.add_mul_div_left := @Nat.add_mul_div_left
theorem Vl : type_of% @List.pairwise_cons := @List.pairwise_cons
theorem Vm : type_of% @Int.natCast_mul := @Int.natCast_mul
theorem Vn : type_of% @List.length_drop := @List.length_drop
theorem Vo : type_of% @Option.getD_some := @Option.getD_some
theorem Vp : type_of% @Int.toNat_natCast := @Int.toNat_natCast
theorem Vq : type_of% @List.getElem?_eq_getElem := @List.getElem?_eq_getElem
theorem Vr : type_of% @Nat.div_lt_iff_lt_mul := @Nat.div_lt_iff_lt_mul
theorem Vs : type_of% @Nat.mul_le_mul := @Nat.mul_le_mul
theorem Vt : type_of% @List.length_replicate := @List.length_replicate
theorem Vu : type_of% @Nat.add_zero := @Nat.add_zero
theorem Vv : type_of% @of_decide_eq_true := @of_decide_eq_true
theorem Vw : type_of% @List.mem_iff_getElem? := @List.mem_iff_getElem?
theorem Vx : type_of% @Option.map_some := @Option.map_some
theorem Vy : type_of% @List.any_eq_false := @List.any_eq_false
theorem Vz : type_of% @List.drop_of_length_le := @List.drop_of_length_le
theorem VA : type_of% @Int.sign_eq_one_of_pos := @Int.sign_eq_one_of_pos
theorem VB : type_of% @Int.sign_eq_neg_one_of_neg := @Int.sign_eq_neg_one_of_neg
theorem VC : type_of% @List.eq_nil_of_length_eq_zero := @List.eq_nil_of_length_eq_zero
theorem VD : type_of% @List.getElem?_drop := @List.getElem?_drop
theorem VE : type_of% @Nat.div_div_eq_div_mul := @Nat.div_div_eq_div_mul
theorem VF : type_of% @Nat.div_add_mod := @Nat.div_add_mod
theorem VG : type_of% @List.getElem?_take := @List.getElem?_take
theorem VH : type_of% @List.getElem?_set := @List.getElem?_set
theorem VI : type_of% @beq_iff_eq := @beq_iff_eq
theorem VJ : type_of% @Option.map_eq_some_iff := @Option.map_eq_some_iff
theorem VK : type_of% @List.mem_append_right := @List.mem_append_right
theorem VM : type_of% @Nat.mul_succ := @Nat.mul_succ
theorem VN : type_of% @List.getElem?_reverse := @List.getElem?_reverse
theorem VO : type_of% @Classical.byContradiction := @Classical.byContradiction
theorem VQ : type_of% @Option.some.injEq := @Option.some.injEq
theorem VR : type_of% @List.filterMap_cons := @List.filterMap_cons
theorem VS : type_of% @List.any_eq_true := @List.any_eq_true
theorem VT : type_of% @List.mem_append_left := @List.mem_append_left
theorem VU : type_of% @Nat.add_comm := @Nat.add_comm
theorem VV : type_of% @Nat.add_mul := @Nat.add_mul
theorem VW : type_of% @Nat.add_mul_mod_self_left := @Nat.add_mul_mod_self_left
theorem VX : type_of% @Nat.one_mul := @Nat.one_mul
theorem VY : type_of% @List.mem_flatMap := @List.mem_flatMap
theorem VZ : type_of% @Nat.eq_zero_or_pos := @Nat.eq_zero_or_pos
theorem V0 : type_of% @Int.natCast_add := @Int.natCast_add
theorem V1 : type_of% @List.length_eq_zero_iff := @List.length_eq_zero_iff
theorem V2 : type_of% @List.nodup_cons := @List.nodup_cons
theorem V3 : type_of% @List.set_append_right := @List.set_append_right
theorem V4 : type_of% @Dyadic.one_mul := @Dyadic.one_mul
theorem V5 : type_of% @Int.natAbs_mul := @Int.natAbs_mul
theorem V6 : type_of% @List.length_range := @List.length_range
theorem V7 : type_of% @List.map_congr_left := @List.map_congr_left
theorem V8 : type_of% @Bool.and_eq_true_iff := @Bool.and_eq_true_iff
theorem V9 : type_of% @List.replicate_succ := @List.replicate_succ
theorem Wa : type_of% @List.mem_of_mem_take := @List.mem_of_mem_take
theorem Wb : type_of% @List.take_zero := @List.take_zero
theorem Wc : type_of% @Classical.not_not := @Classical.not_not
theorem Wd : type_of% @Bool.or_eq_true := @Bool.or_eq_true
theorem We : type_of% @List.mem_reverse := @List.mem_reverse
theorem Wf : type_of% @Option.bind_some := @Option.bind_some
theorem Wg : type_of% @Array.getElem?_eq_getElem := @Array.getElem?_eq_getElem
theorem Wh : type_of% @List.range_succ := @List.range_succ
theorem Wi : type_of% @List.getElem?_append_left := @List.getElem?_append_left
theorem Wj : type_of% @List.getElem?_toArray := @List.getElem?_toArray
theorem Wk : type_of% @Dyadic.zero_add := @Dyadic.zero_add
theorem Wl : type_of% @List.sublist_append_left := @List.sublist_append_left
theorem Wm : type_of% @Dyadic.add_zero := @Dyadic.add_zero
theorem Wn : type_of% @List.reverse_reverse := @List.reverse_reverse
theorem Wo : type_of% @List.map_set := @List.map_set
theorem Wp : type_of% @List.length_set := @List.length_set
theorem Wq : type_of% @Nat.div_le_self := @Nat.div_le_self
theorem Wr : type_of% @List.getElem?_mapIdx := @List.getElem?_mapIdx
theorem Ws : type_of% @List.filterMap_append := @List.filterMap_append
theorem Wt : type_of% @Int.natAbs_pow := @Int.natAbs_pow
theorem Wu : type_of% @List.map_singleton := @List.map_singleton
theorem Wv : type_of% @List.map_drop := @List.map_drop
theorem Ww : type_of% @List.reverse_cons := @List.reverse_cons
theorem Wx : type_of% @Nat.zero_mul := @Nat.zero_mul
theorem Wy : type_of% @Nat.mul_lt_mul_of_pos_right := @Nat.mul_lt_mul_of_pos_right
theorem Wz : type_of% @Bool.eq_false_iff := @Bool.eq_false_iff
theorem WB : type_of% @Dyadic.pow_zero := @Dyadic.pow_zero
theorem WE : type_of% @List.flatMap_cons := @List.flatMap_cons
theorem WG : type_of% @Nat.pow_zero := @Nat.pow_zero
theorem WH : type_of% @Nat.mod_add_div := @Nat.mod_add_div
theorem WI : type_of% @List.getElem?_cons_succ := @List.getElem?_cons_succ
theorem WJ : type_of% @List.size_toArray := @List.size_toArray
theorem WK : type_of% @List.nodup_append := @List.nodup_append
theorem WM : type_of% @List.map_take := @List.map_take
theorem WN : type_of% @List.take_length := @List.take_length
theorem WO : type_of% @List.any_append := @List.any_append
theorem WQ : type_of% @List.any_cons := @List.any_cons
theorem WS : type_of% @Int.mul_le_mul := @Int.mul_le_mul
theorem WT : type_of% @Array.getElem?_eq_none := @Array.getElem?_eq_none
theorem WU : type_of% @Nat.add_assoc := @Nat.add_assoc
theorem WV : type_of% @UInt8.toNat_inj := @UInt8.toNat_inj
theorem WW : type_of% @Int.lt_trichotomy := @Int.lt_trichotomy
theorem WX : type_of% @Array.getElem?_eq_some_iff := @Array.getElem?_eq_some_iff
theorem WY : type_of% @List.length_finRange := @List.length_finRange
theorem WZ : type_of% @Nat.lt_of_not_le := @Nat.lt_of_not_le
theorem W0 : type_of% @List.drop_zero := @List.drop_zero
theorem W3 : type_of% @List.filter_append := @List.filter_append
theorem W4 : type_of% @List.length_nil := @List.length_nil
theorem W5 : type_of% @List.map_id' := @List.map_id'
theorem W6 : type_of% @List.any_nil := @List.any_nil
theorem W7 : type_of% @List.getElem?_cons_zero := @List.getElem?_cons_zero
theorem W8 : type_of% @List.replicate_zero := @List.replicate_zero
theorem W9 : type_of% @Int.eq_ofNat_of_zero_le := @Int.eq_ofNat_of_zero_le
theorem Xa : type_of% @List.mem_of_mem_drop := @List.mem_of_mem_drop
theorem Xb : type_of% @List.filter_cons_of_neg := @List.filter_cons_of_neg
theorem Xc : type_of% @Bool.false_eq_true := @Bool.false_eq_true
theorem Xd : type_of% @UInt8.toNat_ofNat' := @UInt8.toNat_ofNat'
theorem Xe : type_of% @decide_eq_false_iff_not := @decide_eq_false_iff_not
theorem Xf : type_of% @Dyadic.pow_succ := @Dyadic.pow_succ
theorem Xg : type_of% @Array.all_eq_true' := @Array.all_eq_true'
theorem Xh : type_of% @List.set_eq_take_append_cons_drop := @List.set_eq_take_append_cons_drop
theorem Xi : type_of% @List.foldl_append := @List.foldl_append
theorem Xj : type_of% @List.Pairwise.nil := @List.Pairwise.nil
theorem Xk : type_of% @List.flatMap_append := @List.flatMap_append
theorem Xl : type_of% @Bool.not_eq_true' := @Bool.not_eq_true'
theorem Xm : type_of% @Dyadic.mul_zero := @Dyadic.mul_zero
theorem Xn : type_of% @Nat.mul_left_comm := @Nat.mul_left_comm
theorem Xo : type_of% @List.foldl_cons := @List.foldl_cons
theorem Xp : type_of% @List.sublist_append_right := @List.sublist_append_right
theorem Xq : type_of% @List.getElem?_eq_none_iff := @List.getElem?_eq_none_iff
theorem Xr : type_of% @Nat.pow_lt_pow_iff_right := @Nat.pow_lt_pow_iff_right
theorem Xs : type_of% @List.take_append_of_le_length := @List.take_append_of_le_length
theorem Xt : type_of% @Int.natAbs_ediv_le_natAbs := @Int.natAbs_ediv_le_natAbs
theorem Xu : type_of% @Bool.and_eq_false_iff := @Bool.and_eq_false_iff
theorem Xv : type_of% @List.pairwise_singleton := @List.pairwise_singleton
theorem Xw : type_of% @List.filter_cons_of_pos := @List.filter_cons_of_pos
theorem Xx : type_of% @Nat.le_mul_of_pos_right := @Nat.le_mul_of_pos_right
def zL0 : List (List (Nat × Option Nat)) := [[(4, none)], [(21, some 0)], [(1, none)], [(23, some 2)], [(22, some 1), (24, some 3)], [(25, some 4)], [(26, some 5)], [(4, none), (27, some 6)], [(28, some 7), (27, some 6)], [(29, some 8), (27, some 6)], [(30, some 9), (27, some 6)], [(27, some 6), (31, some 10)], [(32, some 11)], [(4, none), (33, some 12)], [(34, some 13), (33, some 12)], [(35, some 14), (33, some 12)], [(4, none), (33, some 12)], [(37, some 16), (33, some 12)], [(36, some 15), (38, some 17), (33, some 12)], [(33, some 12), (39, some 18)], [(40, some 19)], [(3, none), (41, some 20)], [(42, some 21), (41, some 20)], [(43, some 22), (41, some 20)], [(1, none), (44, some 23)], [(45, some 24), (44, some 23)], [(3, none), (44, some 23)], [(47, some 26), (44, some 23)], [(46, some 25), (48, some 27), (44, some 23)], [(49, some 28), (44, some 23)], [(50, some 29), (44, some 23)], [(4, none), (44, some 23)], [(52, some 31), (44, some 23)]]
def zL1 : List Nat := [0, 1, 0, 4, 15, 31, 63, 127, 255, 511, 1023, 2047, 4095, 8191, 16383, 32767, 8191, 73727, 262143, 524287, 1048575, 2097151, 4194303, 8388607, 16777215, 33554431, 16777215, 83886079, 268435455, 536870911, 1073741823, 16777215, 2164260863, 8589934591, 17179869183, 34359738367]
def zL2 : List Nat := [14, 53, 54, 55, 56, 57, 58, 59, 60, 61, 62, 63, 64, 65, 66, 67, 68, 69]
theorem TX {p : Prop} (h : p := by omega) : p := h
theorem TY {p : Prop} (h : p := by decide) : p := h
theorem TZ {p : Prop} (h : p := by kernel_rfl) : p := h
theorem IF {P Q : Prop} (p : P) (h : P → Q := by intro k; exact Cx (b := 4294967295) rfl rfl (by first | assumption | omega) (by first | assumption | omega) TY k) : Q := h p
theorem wG {P Q : Prop} (p : P) (h : P → Q := by intro k; exact lY (s := 32) (m := 4294967296) rfl rfl TY TY TY k) : Q := h p
theorem DH {P Q : Prop} (p : P) (h : P → Q := by intro k; exact lY (s := 8) (m := 256) rfl rfl TY TY TY k) : Q := h p
theorem l4 {P Q : Prop} (p : P) (h : P → Q := by intro k; exact CQ bk.out bk.out rfl (by first | assumption | omega) TY k) : Q := h p
theorem Fl {P Q : Prop} (p : P) (h : P → Q := by intro k; exact dW (aa (cF (ar (ai (sr (mI (mI k)))))))) : Q := h p
theorem AD {P Q : Prop} (p : P) (h : P → Q := by intro k; exact BW bk.out bk.out rfl TX TX TY k) : Q := h p
theorem ju {P Q : Prop} (p : P) (h : P → Q := by intro k; exact kB TY rfl rfl TY k) : Q := h p
theorem oQ {P Q : Prop} (p : P) (h : P → Q := by intro k; exact da (k := j) bk.out aK.size rfl rfl TX TX TY k) : Q := h p
theorem jw {P Q : Prop} (p : P) (h : P → Q := by intro k; exact bT aK.out rfl ((hr.ext hh.below).xT (by assumption)) TY k) : Q := h p
theorem nE {P Q : Prop} (p : P) (h : P → Q := by intro k; exact Pv rfl rfl TX TX TX TY k) : Q := h p
theorem DP {P Q : Prop} (p : P) (h : P → Q := by intro k; exact RU rfl rfl (by first | assumption | omega) (by first | assumption | omega) TY k) : Q := h p
theorem Ih {P Q : Prop} (p : P) (h : P → Q := by intro k; exact bO hh (i := 0) (vs := [_]) rfl rfl (cJ rfl) rfl aK.out rfl (by rw [a8, aN]; omega) rfl k) : Q := h p
theorem fM {P Q : Prop} (p : P) (h : P → Q := by intro k; exact aA (bE (ai (ao k)))) : Q := h p
theorem nF {P Q : Prop} (p : P) (h : P → Q := by intro k; exact bg (aa (ah (cF (a6 (aD (aD (bB (ai (sr (mL k))))))))))) : Q := h p
theorem E6 {P Q : Prop} (p : P) (h : P → Q := by intro k; exact db (aa (cT (sr (aI (aa (au (aG k)))))))) : Q := h p
theorem rN {P Q : Prop} (p : P) (h : P → Q := by intro k; exact OM rfl rfl TX TX TY k) : Q := h p
theorem IW {P Q : Prop} (p : P) (h : P → Q := by intro k; exact dW (aa (cT (ar (ai (ah (aq (aq (ah k))))))))) : Q := h p
theorem JR {P Q : Prop} (p : P) (h : P → Q := by intro k; exact aV 8 [[(0, none)], [(5, none)], [(28, some 0), (29, some 1)], [(30, some 2)], [(1, none)], [(5, none)], [(32, some 4), (33, some 5)], [(34, some 6)]] [(7, 35), (6, 34), (5, 33), (4, 32), (3, 31), (2, 30), (1, 29), (0, 28)] hh mixed TZ k) : Q := h p
theorem AU {P Q : Prop} (p : P) (h : P → Q := by intro k; exact rW (fun _ hj => (hr.ext hj.hp.below).xT hx3) k) : Q := h p
theorem Bm {P Q : Prop} (p : P) (h : P → Q := by intro k; exact rW (fun _ hj => (hs.ext hj.hp.below).xT hy3) k) : Q := h p
theorem IZ {P Q : Prop} (p : P) (h : P → Q := by intro k; exact aY (br (ae v35 (ae v34 (ae v33 (ae v32 (ae v31 (ae v30 (ae v29 (ae v28 aX))))))))) k) : Q := h p
theorem Nm {P Q : Prop} (p : P) (h : P → Q := by intro k; exact aV 8 [[(0, none)], [(5, none)], [(38, some 0), (39, some 1)], [(40, some 2)], [(1, none)], [(5, none)], [(42, some 4), (43, some 5)], [(44, some 6)]] [(7, 45), (6, 44), (5, 43), (4, 42), (3, 41), (2, 40), (1, 39), (0, 38)] hh mixed TZ k) : Q := h p
theorem MI {P Q : Prop} (p : P) (h : P → Q := by intro k; exact aY (br (ae v45 (ae v44 (ae v43 (ae v42 (ae v41 (ae v40 (ae v39 (ae v38 aX))))))))) k) : Q := h p
theorem wL {P Q : Prop} (p : P) (h : P → Q := by intro k; exact bg (aa (ah (cT (ar (ai (ah (aq (sr (mI (aI (aa (sr (aI (aa (ah (sr (mI (mL (aJ k)))))))))))))))))))) : Q := h p
theorem Kr {P Q : Prop} (p : P) (h : P → Q := by intro k; exact da (k := done.length) bk.out aK.size rfl rfl TX TX TY k) : Q := h p
theorem jn {P Q : Prop} (p : P) (h : P → Q := by intro k; exact bT aK.out rfl (hh.fh (i := 0) rfl (by first | assumption | (simp only [Uo]; assumption))) TY k) : Q := h p
theorem nC {P Q : Prop} (p : P) (h : P → Q := by intro k; exact om (k := done.length) bk.out aK.size rfl rfl TX TX TY k) : Q := h p
theorem xa {P Q : Prop} (p : P) (h : P → Q := by intro k; exact bO hh (i := 0) (vs := [_]) rfl rfl (cJ rfl) rfl aK.out rfl (by rw [a8]; simp only [Ua, Uq]; omega) rfl k) : Q := h p
theorem wI {P Q : Prop} (p : P) (h : P → Q := by intro k; exact aI (aA (bE (ai (ao k))))) : Q := h p
theorem rb {P Q : Prop} (p : P) (h : P → Q := by intro k; exact aL (aa (ah (sr (mL (aJ (mI (aa (aq k))))))))) : Q := h p
theorem ek {P Q : Prop} (p : P) (h : P → Q := by intro k; exact bg (aa (ah (cT (ar (ai (ah (aq (sr (mI k)))))))))) : Q := h p
theorem gk {P Q : Prop} (p : P) (h : P → Q := by intro k; exact cV (k := i) bk.out aK.size rfl rfl TX TX TY k) : Q := h p
theorem wz {P Q : Prop} (p : P) (h : P → Q := by intro k; exact cP hh (cs := [_]) bk.out aK.out (aM (cJ rfl) bU) rfl rfl TY TY TY rfl TY k) : Q := h p
theorem rK {P Q : Prop} (p : P) (h : P → Q := by intro k; exact aF (oB a _ ha) al.out rfl TY k) : Q := h p
theorem Ei {P Q : Prop} (p : P) (h : P → Q := by intro k; exact aF (oB b _ hb) al.out rfl TY k) : Q := h p
theorem Ko {P Q : Prop} (p : P) (h : P → Q := by intro k; exact bD hh (C4 _ _ _ _ _ _ (aU 18446744073709551616 (bN a)) (aU 18446744073709551616 (bN b)) _ (hh.aC (i := 1) rfl) (hh.aC (i := 0) rfl) (jr _) (jr _) (hh.fI (i := 1) rfl) (hh.fI (i := 0) rfl) TX TX) rfl k) : Q := h p
theorem Eo {P Q : Prop} (p : P) (h : P → Q := by intro k; exact bg (aa (ah (cF (a6 (aD (aD (bB (ai (sr (aI (aa (au k))))))))))))) : Q := h p
theorem dO {P Q : Prop} (p : P) (h : P → Q := by intro k; exact bg (aa (ah (cT (ar (ai (ah (aq (sr k))))))))) : Q := h p
theorem kN {P Q : Prop} (p : P) (h : P → Q := by intro k; exact aL (aA (bE (ai (ao k))))) : Q := h p
theorem j0 {P Q : Prop} (p : P) (h : P → Q := by intro k; exact rv bk.out rfl rfl TX (by assumption) TY k) : Q := h p
theorem oZ {P Q : Prop} (p : P) (h : P → Q := by intro k; exact KT (eO rfl (eN (vs := [_, _]) aK.out (hh.ck (i := 0) (n := 2) rfl rfl) rfl) gm) k) : Q := h p
theorem GX {P Q : Prop} (p : P) (h : P → Q := by intro k; exact aj (N := 13) (l := [.agg #[.bool s, .string m]]) Tryz.func195 rfl rfl (by simp) k) : Q := h p
theorem EG {P Q : Prop} (p : P) (h : P → Q := by intro k; exact aB (aa (cT (sr (aI (aa (au (cd (aG k))))))))) : Q := h p
theorem Dw {P Q : Prop} (p : P) (h : P → Q := by intro k; exact Ma bk.out rfl rfl (by first | rfl | assumption | decide) TY k) : Q := h p
theorem Dt {P Q : Prop} (p : P) (h : P → Q := by intro k; exact aa (cF (ar (ai (ah (sr (bH k))))))) : Q := h p
theorem Ng {P Q : Prop} (p : P) (h : P → Q := by intro k; exact aY (br (ae v14 (ae v13 (ae v12 (ae v11 (ae v10 (ae v9 (ae v8 (ae v7 (ae v6 (ae v5 aX))))))))))) k) : Q := h p
theorem vS {P Q : Prop} (p : P) (h : P → Q := by intro k; exact aa (ah (sr (mL (aJ (mI (aa (aq k)))))))) : Q := h p
theorem cu {P Q : Prop} (p : P) (h : P → Q := by intro k; exact da (k := i) bk.out aK.size rfl rfl TX TX TY k) : Q := h p
theorem mM {P Q : Prop} (p : P) (h : P → Q := by intro k; exact bg (aa (ah (cF (a6 (aD (aD (bB (ai (sr k)))))))))) : Q := h p
theorem DN {P Q : Prop} (p : P) (h : P → Q := by intro k; exact cP hh (cs := [_, _, _, _]) bk.out aK.out (aM (gO rfl) (aM (gO rfl) bU)) rfl rfl TY TY TY rfl TY k) : Q := h p
theorem E9 {P Q : Prop} (p : P) (h : P → Q := by intro k; exact aV 10 [[(2, none)], [(18, some 0)], [(1, none)], [(20, some 2)], [(19, some 1), (21, some 3)], [(2, none)], [(23, some 5)], [(22, some 4), (24, some 6)], [(25, some 7)], []] [(9, 5), (8, 26), (7, 25), (6, 24), (5, 23), (4, 22), (3, 21), (2, 20), (1, 19), (0, 18)] hh mixed TZ k) : Q := h p
theorem Ew {P Q : Prop} (p : P) (h : P → Q := by intro k; exact bu (i := 3) (fun ρ1 w1 hj hR => J9 (show ρ1 20 = Value.int _ _ from hR.1) TX TX) k) : Q := h p
theorem Dl {P Q : Prop} (p : P) (h : P → Q := by intro k; exact aT (i := 9) (dt _ 63 _) dt.ext (fun ρ1 w1 hj hR => jN aK.out hj.bl (fun v w2 h hb => ⟨hb, h⟩)) k) : Q := h p
theorem Es {P Q : Prop} (p : P) (h : P → Q := by intro k; exact aY (br (ae e5 (ae v26 (ae v25 (ae v24 (ae v23 (ae v22 (ae v21 (ae v20 (ae v19 (ae v18 aX))))))))))) k) : Q := h p
theorem HQ {P Q : Prop} (p : P) (h : P → Q := by intro k; exact aj (N := 47) (l := [.agg #[.bool true, .string a], .int .i64 (-(m : Int))]) Tryz.func197 rfl rfl (by simp) k) : Q := h p
theorem uJ {P Q : Prop} (p : P) (h : P → Q := by intro k; exact aa (cF (ar (ai (sr k))))) : Q := h p
theorem IQ {P Q : Prop} (p : P) (h : P → Q := by intro k; exact aj (N := 41) (l := [.agg #[.bool a.neg, .string a.bz, .int .i64 a.e], .agg #[.bool b.neg, .string b.bz, .int .i64 b.e]]) Tryz.func136 rfl rfl (by simp) k) : Q := h p
theorem Jo {P Q : Prop} (p : P) (h : P → Q := by intro k; exact aV 3 [[(2, none)], [(7, some 0)], [(3, none)]] [(2, 9), (1, 8), (0, 7)] hh mixed TZ k) : Q := h p
theorem HU {P Q : Prop} (p : P) (h : P → Q := by intro k; exact dC (fun _ hj => eB a _ (hT.hp hj.hp) TX TX TX) k) : Q := h p
theorem NJ {P Q : Prop} (p : P) (h : P → Q := by intro k; exact aj (N := 28) (l := [.agg #[.bool a.neg, .string a.bz, .int .i64 a.e], .agg #[.bool b.neg, .string b.bz, .int .i64 b.e]]) Tryz.func184 rfl rfl (by simp) k) : Q := h p
theorem tW {P Q : Prop} (p : P) (h : P → Q := by intro k; exact dn (aa (cF (ar (ai (sr k)))))) : Q := h p
theorem EL {P Q : Prop} (p : P) (h : P → Q := by intro k; exact cw (vs := [_, _, _]) aK.out rfl (((hr.ext hh.below).recAt NR.len hx)) rfl TY k) : Q := h p
theorem s9 {P Q : Prop} (p : P) (h : P → Q := by intro k; exact cP hh (cs := [_, _, _, _, _, _]) bk.out aK.out (aM (gO rfl) (aM (gO rfl) bU)) rfl rfl TY TY TY rfl TY k) : Q := h p
theorem Ai {P Q : Prop} (p : P) (h : P → Q := by intro k; exact bD hh (jI 1 _ (hT.hp hh) TX TX) rfl k) : Q := h p
theorem Di {P Q : Prop} (p : P) (h : P → Q := by intro k; exact da (k := 0) bk.out aK.size rfl rfl TX TX TY k) : Q := h p
theorem iH {P Q : Prop} (p : P) (h : P → Q := by intro k; exact qK (by first | exact rX rfl | exact sg rfl) TY k) : Q := h p
theorem wv {P Q : Prop} (p : P) (h : P → Q := by intro k; exact aa (cF (ar (bE (ai (ao k)))))) : Q := h p
theorem I5 {P Q : Prop} (p : P) (h : P → Q := by intro k; exact Cx (b := 1) rfl rfl (by first | assumption | omega) (by first | assumption | omega) TY k) : Q := h p
theorem pK {P Q : Prop} (p : P) (h : P → Q := by intro k; exact cK hh (i := 1) rfl rfl rfl (hh.aC (i := 0) rfl) bk.out aK.out rfl TY (by first | rfl | exact dR _ | exact dp _ | exact bZ _ | exact cv NR.one _) TX TX TY k) : Q := h p
theorem vP {P Q : Prop} (p : P) (h : P → Q := by intro k; exact aL (aA (bE (ai (ao (mI k)))))) : Q := h p
theorem Hx {P Q : Prop} (p : P) (h : P → Q := by intro k; exact dW (aa (cT (ar (ai (ah (aq (ah (sr (mL (mI k))))))))))) : Q := h p
theorem Bt {P Q : Prop} (p : P) (h : P → Q := by intro k; exact bD hh (iK A n c j xs _ (hx.ext hh.below) hdx TX TX) rfl k) : Q := h p
theorem Bi {P Q : Prop} (p : P) (h : P → Q := by intro k; exact bD hh (iK B m c' j ys _ (hy.ext hh.below) hdy TX TX) rfl k) : Q := h p
theorem ri {P Q : Prop} (p : P) (h : P → Q := by intro k; exact bg (aa (cT (ar (ai (ah (aq (sr (mL (mI k)))))))))) : Q := h p
theorem Il {P Q : Prop} (p : P) (h : P → Q := by intro k; exact gi (n := n) hh rfl rfl TX TX bk.out aK.out rfl TX TX TY k) : Q := h p
theorem Ig {P Q : Prop} (p : P) (h : P → Q := by intro k; exact bO hh (i := 0) (vs := [_]) rfl rfl (cJ rfl) rfl aK.out rfl (by rw [hll]; omega) rfl k) : Q := h p
theorem E5 {P Q : Prop} (p : P) (h : P → Q := by intro k; exact aF (eT a _ ha) al.out rfl TY k) : Q := h p
theorem Ka {P Q : Prop} (p : P) (h : P → Q := by intro k; exact bg (aa (cT (ar (ai (ah (aq (ao (mL (mL (mI k))))))))))) : Q := h p
theorem Kg {P Q : Prop} (p : P) (h : P → Q := by intro k; exact bD hh (g6 _ _ _ (aU 2 (bN m)) _ (hh.aC (i := 0) rfl) (k4 _) (hh.fI (i := 0) rfl) TX) rfl k) : Q := h p
theorem Af {P Q : Prop} (p : P) (h : P → Q := by intro k; exact KT (eO rfl (eN (vs := [_, _]) aK.out (hh.ck (i := 1) (n := 2) rfl rfl) rfl) gm) k) : Q := h p
theorem AR {P Q : Prop} (p : P) (h : P → Q := by intro k; exact aa (cT (sr (aI (aa (au (aG k))))))) : Q := h p
theorem E2 {P Q : Prop} (p : P) (h : P → Q := by intro k; exact aa (cF (ar (ai (sr (aI (aa (au k)))))))) : Q := h p
theorem wu {P Q : Prop} (p : P) (h : P → Q := by intro k; exact aa (cF (ar (ai (sr (bH k)))))) : Q := h p
theorem Ik {P Q : Prop} (p : P) (h : P → Q := by intro k; exact KT (eO rfl (eN (vs := [_, _, _]) aK.out (hh.ck (i := 0) (n := 3) rfl rfl) rfl) gm) k) : Q := h p
theorem ud {P Q : Prop} (p : P) (h : P → Q := by intro k; exact aI (aa (ah (aq (sr (bH k)))))) : Q := h p
theorem vR {P Q : Prop} (p : P) (h : P → Q := by intro k; exact cm (mB (gT (mL (gT (aJ (gT k))))))) : Q := h p
theorem IY {P Q : Prop} (p : P) (h : P → Q := by intro k; exact aV 7 [[(2, none)], [(0, none)], [(26, some 1)], [(27, some 2)], [(1, none)], [(29, some 4)], [(30, some 5)]] [(6, 31), (5, 30), (4, 29), (3, 28), (2, 27), (1, 26), (0, 25)] hh mixed TZ k) : Q := h p
theorem Ho {P Q : Prop} (p : P) (h : P → Q := by intro k; exact aY (br (ae v31 (ae v30 (ae v29 (ae v28 (ae v27 (ae v26 (ae v25 aX)))))))) k) : Q := h p
theorem JO {P Q : Prop} (p : P) (h : P → Q := by intro k; exact cw (vs := [_, _, _, _]) aK.out rfl ((hr.ext hh.below).recAt TR.len hxx) rfl TY k) : Q := h p
theorem Bf {P Q : Prop} (p : P) (h : P → Q := by intro k; exact cP hh (cs := [_, _, _, _]) bk.out aK.out (aM (gO rfl) bU) rfl rfl TY TY TY rfl TY k) : Q := h p
theorem Jt {P Q : Prop} (p : P) (h : P → Q := by intro k; exact cw (vs := [_, _, _, _]) aK.out rfl ((hr2.ext hh.below).recAt TR.len hyy) rfl TY k) : Q := h p
theorem za {P Q : Prop} (p : P) (h : P → Q := by intro k; exact sr (aI (aa (ah (sr (mL (aJ (mI (aa (aq k)))))))))) : Q := h p
theorem re {P Q : Prop} (p : P) (h : P → Q := by intro k; exact bg (aa (ah (cT (ar (ai (ah (aq (sr (mI (aI (aa (sr k))))))))))))) : Q := h p
theorem rj {P Q : Prop} (p : P) (h : P → Q := by intro k; exact cV (k := j) bk.out aK.size rfl rfl TX TX TY k) : Q := h p
theorem sZ {P Q : Prop} (p : P) (h : P → Q := by intro k; exact aa (cF (ar (bE (ai (ao (mI k))))))) : Q := h p
theorem Ba {P Q : Prop} (p : P) (h : P → Q := by intro k; exact Qk (eO rfl (eN (vs := [_, _]) aK.out (hh.ck (i := 0) (n := 2) rfl rfl) rfl) (j4 (la rfl) gm)) k) : Q := h p
theorem EU {P Q : Prop} (p : P) (h : P → Q := by intro k; exact Qk (eO rfl (eN (vs := [_, _]) aK.out (hh.ck (i := 1) (n := 2) rfl rfl) rfl) (j4 (la rfl) gm)) k) : Q := h p
theorem uO {P Q : Prop} (p : P) (h : P → Q := by intro k; exact yS bk.out aK.size rfl rfl TX TX TY k) : Q := h p
theorem It {P Q : Prop} (p : P) (h : P → Q := by intro k; exact aj (N := 45) (l := [.string a, .string b, .func (.func g) #[] #[]]) Tryz.func206 rfl rfl (by simp) k) : Q := h p
theorem uD {P Q : Prop} (p : P) (h : P → Q := by intro k; exact cV bk.out aK.size rfl rfl rfl TX TY k) : Q := h p
theorem IU {P Q : Prop} (p : P) (h : P → Q := by intro k; exact bT aK.out rfl (hh.fh (i := 1) rfl (by first | assumption | (simp only [Uo]; assumption))) TY k) : Q := h p
theorem Kc {P Q : Prop} (p : P) (h : P → Q := by intro k; exact aj (N := 58) (l := [.agg #[.int .i64 v, .slice A n c]]) Tryz.func142 rfl rfl (by simp) k) : Q := h p
theorem ra {P Q : Prop} (p : P) (h : P → Q := by intro k; exact cw (vs := [_, _, _, _]) aK.out rfl ((hr.ext hh.below).recAt TR.len hx) rfl TY k) : Q := h p
theorem AK {P Q : Prop} (p : P) (h : P → Q := by intro k; exact lT (i := 9) rfl (fun ρ1 w1 hj hR => (show ρ1 27 = Value.bool _ from hR.2.1)) (fun ρ1 w1 hj hR => aO al.out (aw (show ρ1 29 = Value.agg (List.toArray _) from hR.1) aZ)) (fun w1 hj => hsg _) k) : Q := h p
theorem DQ {P Q : Prop} (p : P) (h : P → Q := by intro k; exact lT (i := 15) rfl (fun ρ1 w1 hj hR => (show ρ1 33 = Value.bool _ from hR.2.1)) (fun ρ1 w1 hj hR => aO al.out (aw (show ρ1 35 = Value.agg (List.toArray _) from hR.1) aZ)) (fun w1 hj => hfo _ (hT.hp hj.hp)) k) : Q := h p
theorem HR {P Q : Prop} (p : P) (h : P → Q := by intro k; exact yi (i := 18) rfl (fun ρ1 w1 hj hR => (show ρ1 33 = Value.bool _ from hR.2.2.1)) (fun ρ1 w1 hj hR => EC (show ρ1 36 = Value.agg (List.toArray _) from hR.1) (show ρ1 38 = Value.agg (List.toArray _) from hR.2.1) (by first | assumption | rfl)) k) : Q := h p
theorem EX {P Q : Prop} (p : P) (h : P → Q := by intro k; exact aY (br (ae v53 (ae v52 (ae v51 (ae v50 (ae v49 (ae v48 (ae v47 (ae v46 (ae v45 (ae v44 (ae v43 (ae v42 (ae v41 (ae v40 (ae v39 (ae v38 (ae v37 (ae v36 (ae v35 (ae v34 (ae v33 (ae v32 (ae v31 (ae v30 (ae v29 (ae v28 (ae v27 (ae v26 (ae v25 (ae v24 (ae v23 (ae v22 (ae v21 aX)))))))))))))))))))))))))))))))))) k) : Q := h p
theorem Ea {P Q : Prop} (p : P) (h : P → Q := by intro k; exact aj (N := 25) (l := [.int .i64 v, .slice A n c]) Tryz.func72 rfl rfl (by simp) k) : Q := h p
theorem vy {P Q : Prop} (p : P) (h : P → Q := by intro k; exact ua rfl (aw (Cc rfl) aZ) TY k) : Q := h p
theorem NK {P Q : Prop} (p : P) (h : P → Q := by intro k; exact aV 6 [[(2, none)], [(4, some 0)], [(1, none)], [(6, some 2)], [(7, some 3)], [(8, some 4)]] [(5, 9), (4, 8), (3, 7), (2, 6), (1, 5), (0, 4)] hh mixed TZ k) : Q := h p
theorem Km {P Q : Prop} (p : P) (h : P → Q := by intro k; exact cw (vs := [_, _]) aK.out rfl ((hr.ext hh.below).recAt PX.len hx) rfl TY k) : Q := h p
theorem Iw {P Q : Prop} (p : P) (h : P → Q := by intro k; exact bg (aa (ah (cF (a6 (aD (aD (bB (ai (ah (sr k))))))))))) : Q := h p
theorem uK {P Q : Prop} (p : P) (h : P → Q := by intro k; exact bT aK.out rfl ((hr.ext hh.below).xT hgi) TY k) : Q := h p
theorem wF {P Q : Prop} (p : P) (h : P → Q := by intro k; exact aj (N := 29) (l := [.agg #[.slice A n c, .slice B m c2]]) Tryz.func41 rfl rfl (by simp) k) : Q := h p
theorem DU {P Q : Prop} (p : P) (h : P → Q := by intro k; exact bD hh (eF A n c ds _ (hS.ext hh.below) hn) rfl k) : Q := h p
theorem Iv {P Q : Prop} (p : P) (h : P → Q := by intro k; exact aV 6 [[(1, none)], [(19, some 0)], [(20, some 1)], [(1, none)], [(22, some 3)], [(23, some 4)]] [(5, 24), (4, 23), (3, 22), (2, 21), (1, 20), (0, 19)] hh mixed TZ k) : Q := h p
theorem IX {P Q : Prop} (p : P) (h : P → Q := by intro k; exact aY (br (ae v24 (ae v23 (ae v22 (ae v21 (ae v20 (ae v19 aX))))))) k) : Q := h p
theorem rC {P Q : Prop} (p : P) (h : P → Q := by intro k; exact cP hh (cs := [_, _, _]) bk.out aK.out (aM (gO rfl) bU) rfl rfl TY TY TY rfl TY k) : Q := h p
theorem y7 {P Q : Prop} (p : P) (h : P → Q := by intro k; exact bg (aa (ah (cF (a6 (aD (aD (bB (bE (ai (ao k))))))))))) : Q := h p
theorem p6 {P Q : Prop} (p : P) (h : P → Q := by intro k; exact xr eR.out rfl TY k) : Q := h p
theorem fJ {P Q : Prop} (p : P) (h : P → Q := by intro k; exact bD hh (hck _ (hT.hp hh) hh.below) rfl k) : Q := h p
theorem Jf {P Q : Prop} (p : P) (h : P → Q := by intro k; exact cw (vs := [_, _, _, _, _, _]) aK.out rfl ((hr.ext hh.below).recAt SR.len hs) rfl TY k) : Q := h p
theorem On {P Q : Prop} (p : P) (h : P → Q := by intro k; exact cP hh (cs := [_, _, _, _, _, _]) bk.out aK.out (aM (gO rfl) bU) rfl rfl TY TY TY rfl TY k) : Q := h p
theorem Nf {P Q : Prop} (p : P) (h : P → Q := by intro k; exact cK hh (i := 2) rfl rfl rfl (hh.aC (i := 0) rfl) bk.out aK.out rfl TY (by first | rfl | exact dR _ | exact dp _ | exact bZ _ | exact cv NR.one _) TX TX TY k) : Q := h p
theorem AE {P Q : Prop} (p : P) (h : P → Q := by intro k; exact aj (N := 58) (l := [.agg #[.int .i64 p.v, .slice p.A p.n p.c], .slice L n c, .slice M m mc]) Tryz.func87 rfl rfl (by simp) k) : Q := h p
theorem uz {P Q : Prop} (p : P) (h : P → Q := by intro k; exact dn (aa (cF (ar (ai (ah (sr (mL k)))))))) : Q := h p
theorem rz {P Q : Prop} (p : P) (h : P → Q := by intro k; exact dn (aa (cF (ar (ai (ah (sr (mL (aJ (bH k)))))))))) : Q := h p
theorem ze {P Q : Prop} (p : P) (h : P → Q := by intro k; exact bT aK.out rfl ((hr.ext hh.below).xT hy2) TY k) : Q := h p
theorem Dh {P Q : Prop} (p : P) (h : P → Q := by intro k; exact aa (cT (sr (aI (aa (au (cd (aG (aG (cd (aG k))))))))))) : Q := h p
theorem NL {P Q : Prop} (p : P) (h : P → Q := by intro k; exact cK hh (i := 3) rfl rfl rfl (hh.aC (i := 0) rfl) bk.out aK.out rfl TY (by first | rfl | exact dR _ | exact dp _ | exact bZ _ | exact cv NR.one _) TX TX TY k) : Q := h p
theorem IV {P Q : Prop} (p : P) (h : P → Q := by intro k; exact Qk (eO rfl (eN (vs := [_, _]) aK.out (hh.ck (i := 3) (n := 2) rfl rfl) rfl) (j4 (la rfl) gm)) k) : Q := h p
theorem rJ {P Q : Prop} (p : P) (h : P → Q := by intro k; exact Qk (eO rfl (eN (vs := [_, _]) aK.out (hh.ck (i := 2) (n := 2) rfl rfl) rfl) (j4 (la rfl) gm)) k) : Q := h p
theorem xc {P Q : Prop} (p : P) (h : P → Q := by intro k; exact sr (aB (aa (ah (sr (mL (aJ (mL (aJ k))))))))) : Q := h p
theorem HZ {P Q : Prop} (p : P) (h : P → Q := by intro k; exact dn (aa (cF (ar (ai (ah (sr (aI (aa (aq k)))))))))) : Q := h p
theorem wD {P Q : Prop} (p : P) (h : P → Q := by intro k; exact bg (aa (cT (ar (ai (ah (aq (ah k)))))))) : Q := h p
theorem zN {P Q : Prop} (p : P) (h : P → Q := by intro k; exact aV 8 [[(0, none)], [(5, none)], [(17, some 0), (18, some 1)], [(19, some 2)], [(1, none)], [(5, none)], [(21, some 4), (22, some 5)], [(23, some 6)]] [(7, 24), (6, 23), (5, 22), (4, 21), (3, 20), (2, 19), (1, 18), (0, 17)] hh mixed TZ k) : Q := h p
theorem M4 {P Q : Prop} (p : P) (h : P → Q := by intro k; exact bu (i := 2) (fun ρ1 w1 hj hR => dA bk.out aK.size (show ρ1 17 = Value.slice _ _ _ from hR.1) (show ρ1 18 = Value.int _ _ from hR.2.1) TX TX) k) : Q := h p
theorem NG {P Q : Prop} (p : P) (h : P → Q := by intro k; exact bu (i := 6) (fun ρ1 w1 hj hR => dA bk.out aK.size (show ρ1 21 = Value.slice _ _ _ from hR.1) (show ρ1 22 = Value.int _ _ from hR.2.1) TX TX) k) : Q := h p
theorem AG {P Q : Prop} (p : P) (h : P → Q := by intro k; exact aY (br (ae v24 (ae v23 (ae v22 (ae v21 (ae v20 (ae v19 (ae v18 (ae v17 aX))))))))) k) : Q := h p
theorem Aq {P Q : Prop} (p : P) (h : P → Q := by intro k; exact bg (aa (cF (a6 (aD (aD (bB (ai (sr (aB (aa (au k)))))))))))) : Q := h p
theorem D2 {P Q : Prop} (p : P) (h : P → Q := by intro k; exact aj (N := 34) (l := [.int .i64 v, .int .i64 x]) Tryz.func117 rfl rfl (by simp) k) : Q := h p
theorem DD {P Q : Prop} (p : P) (h : P → Q := by intro k; exact r9 [_,_,_,_] (fun _ hj => (hr.ext hj.hp.below).recAt TR.len hs) k) : Q := h p
theorem EN {P Q : Prop} (p : P) (h : P → Q := by intro k; exact r9 [_,_,_,_] (fun _ hj => (hr2.ext hj.hp.below).recAt TR.len ht) k) : Q := h p
theorem NB {P Q : Prop} (p : P) (h : P → Q := by intro k; exact aj (N := 17) (l := [.agg #[.int .i64 p.v, .slice p.A p.n p.c], .agg #[.int .i64 q.v, .slice q.A q.n q.c]]) Tryz.func15 rfl rfl (by simp) k) : Q := h p
theorem NX {P Q : Prop} (p : P) (h : P → Q := by intro k; exact aj (N := 42) (l := [.agg #[.int .i64 p.v, .slice p.A p.n p.c], .agg #[.bool c.neg, .string c.bz, .int .i64 c.e]]) Tryz.func53 rfl rfl (by simp) k) : Q := h p
theorem Ia {P Q : Prop} (p : P) (h : P → Q := by intro k; exact bT aK.out rfl (((hr.ext hh.below).recAt TR.len hx).cell (i := 0) rfl) TY k) : Q := h p
theorem N2 {P Q : Prop} (p : P) (h : P → Q := by intro k; exact aV 8 [[(0, none)], [(5, none)], [(13, some 0), (14, some 1)], [(15, some 2)], [(1, none)], [(5, none)], [(17, some 4), (18, some 5)], [(19, some 6)]] [(7, 20), (6, 19), (5, 18), (4, 17), (3, 16), (2, 15), (1, 14), (0, 13)] hh mixed TZ k) : Q := h p
theorem Ov {P Q : Prop} (p : P) (h : P → Q := by intro k; exact bu (i := 2) (fun ρ1 w1 hj hR => nP bk.out aK.size (show ρ1 13 = Value.slice _ _ _ from hR.1) (show ρ1 14 = Value.int _ _ from hR.2.1) rfl TX) k) : Q := h p
theorem Nd {P Q : Prop} (p : P) (h : P → Q := by intro k; exact bu (i := 3) (fun ρ1 w1 hj hR => jb aK.out (show ρ1 15 = Value.pointer _ from hR.1) (hj.hp.fh (i := 0) rfl (by rw [Uo]; exact hx2))) k) : Q := h p
theorem Nl {P Q : Prop} (p : P) (h : P → Q := by intro k; exact bu (i := 6) (fun ρ1 w1 hj hR => dA bk.out aK.size (show ρ1 17 = Value.slice _ _ _ from hR.1) (show ρ1 18 = Value.int _ _ from hR.2.1) TX TX) k) : Q := h p
theorem Ns {P Q : Prop} (p : P) (h : P → Q := by intro k; exact aY (br (ae v20 (ae v19 (ae v18 (ae v17 (ae v16 (ae v15 (ae v14 (ae v13 aX))))))))) k) : Q := h p
theorem Hk {P Q : Prop} (p : P) (h : P → Q := by intro k; exact cw (vs := [_, _, _]) aK.out rfl ((hr.ext hh.below).recAt NR.len hxn) rfl TY k) : Q := h p
theorem N8 {P Q : Prop} (p : P) (h : P → Q := by intro k; exact cw (vs := [_, _, _]) aK.out rfl (hh.iz (f := NR.cells) (x := nR (nD (bin (d - i) j))) (l := lf (d - i)) (i := 0) rfl NR.len TY hbn) rfl TY k) : Q := h p
theorem Fe {P Q : Prop} (p : P) (h : P → Q := by intro k; exact aj (N := 20) (l := [.agg #[.slice fx.A fx.n fx.a, .slice fx.B fx.m fx.b], .int .i64 ax]) Tryz.func144 rfl rfl (by simp) k) : Q := h p
theorem N5 {P Q : Prop} (p : P) (h : P → Q := by intro k; exact aV 6 [[(8, none)], [(3, none)], [(21, some 1)], [(20, some 0), (22, some 2)], [(3, none)], [(24, some 4)]] [(5, 25), (4, 24), (3, 23), (2, 22), (1, 21), (0, 20)] hh mixed TZ k) : Q := h p
theorem Oq {P Q : Prop} (p : P) (h : P → Q := by intro k; exact bu (i := 3) (fun ρ1 w1 hj hR => qo (show ρ1 20 = Value.int _ _ from hR.1) (show ρ1 22 = Value.int _ _ from hR.2.1) TX TX TX) k) : Q := h p
theorem IA {P Q : Prop} (p : P) (h : P → Q := by intro k; exact bg (aa (ah (cT (ar (ai (ah (aq (sr (mI (aI (aa (ah k))))))))))))) : Q := h p
theorem MH {P Q : Prop} (p : P) (h : P → Q := by intro k; exact cw (vs := [_, _, _]) aK.out rfl (hh.iz (f := NR.cells) (x := nR x) (l := Y.map nR) (i := 1) rfl NR.len TY hxn) rfl TY k) : Q := h p
theorem Nq {P Q : Prop} (p : P) (h : P → Q := by intro k; exact aV 12 [[(9, none)], [(7, none)], [(58, some 1)], [(57, some 0), (59, some 2)], [(7, none)], [(61, some 4)], [(60, some 3), (62, some 5)], [(2, none)], [(64, some 7)], [(1, none)], [(65, some 8), (66, some 9)], [(67, some 10)]] [(11, 68), (10, 67), (9, 66), (8, 65), (7, 64), (6, 63), (5, 62), (4, 61), (3, 60), (2, 59), (1, 58), (0, 57)] hh mixed TZ k) : Q := h p
theorem NW {P Q : Prop} (p : P) (h : P → Q := by intro k; exact bu (i := 3) (fun ρ1 w1 hj hR => qo (show ρ1 57 = Value.int _ _ from hR.1) (show ρ1 59 = Value.int _ _ from hR.2.1) TX TX TX) k) : Q := h p
theorem NC {P Q : Prop} (p : P) (h : P → Q := by intro k; exact bu (i := 6) (fun ρ1 w1 hj hR => n9 (show ρ1 60 = Value.int _ _ from hR.1) (show ρ1 62 = Value.int _ _ from hR.2.1) TX TX) k) : Q := h p
theorem N4 {P Q : Prop} (p : P) (h : P → Q := by intro k; exact aY (br (ae v68 (ae v67 (ae v66 (ae v65 (ae v64 (ae v63 (ae v62 (ae v61 (ae v60 (ae v59 (ae v58 (ae v57 aX))))))))))))) k) : Q := h p
theorem Ec {P Q : Prop} (p : P) (h : P → Q := by intro k; exact aj (N := 165) (l := [.agg #[.slice fx.A fx.n fx.a, .slice fx.B fx.m fx.b], .slice L n c]) Tryz.func37 rfl rfl (by simp) k) : Q := h p
theorem HH {P Q : Prop} (p : P) (h : P → Q := by intro k; exact Fo (N := 58) (l := [.agg #[.slice fx.A fx.n fx.a, .slice fx.B fx.m fx.b], .slice L m2 c2]) Tryz.func39 rfl rfl (by simp) k) : Q := h p
theorem Ex {P Q : Prop} (p : P) (h : P → Q := by intro k; exact aj (N := 18) (l := [.agg #[.bool a.neg, .string a.bz, .int .i64 a.e]]) Tryz.func43 rfl rfl (by simp) k) : Q := h p
theorem Kl {P Q : Prop} (p : P) (h : P → Q := by intro k; exact aj (N := 46) (l := [.slice A n c, .slice B m d]) Tryz.func27 rfl rfl (by simp) k) : Q := h p
theorem Np {P Q : Prop} (p : P) (h : P → Q := by intro k; exact aV 8 [[(0, none)], [(5, none)], [(16, some 0), (17, some 1)], [(18, some 2)], [(1, none)], [(5, none)], [(20, some 4), (21, some 5)], [(22, some 6)]] [(7, 23), (6, 22), (5, 21), (4, 20), (3, 19), (2, 18), (1, 17), (0, 16)] hh mixed TZ k) : Q := h p
theorem MV {P Q : Prop} (p : P) (h : P → Q := by intro k; exact aY (br (ae v23 (ae v22 (ae v21 (ae v20 (ae v19 (ae v18 (ae v17 (ae v16 aX))))))))) k) : Q := h p
theorem NV {P Q : Prop} (p : P) (h : P → Q := by intro k; exact aj (N := 17) (l := [.agg #[.int .i64 p.v, .slice p.A p.n p.c], .agg #[.int .i64 q.v, .slice q.A q.n q.c]]) Tryz.func54 rfl rfl (by simp) k) : Q := h p
theorem Ij {P Q : Prop} (p : P) (h : P → Q := by intro k; exact bg (aa (ah (cF (a6 (aD (aD (bB (ai (sr (mL (aL (aa (au k)))))))))))))) : Q := h p
theorem Oi {p : Prop} (h : p := by
  refine ⟨⟨i + 1, TX, rfl, hh⟩, by show (n - m / 64) - (i + 1) < (n - m / 64) - i; omega, ?_⟩;exact dQ) : p := h
theorem MP {p : Prop} (h : p := by
  refine aa (sr (mI ?_));refine bj (mL (aJ ?_));refine bg (mB ?_);refine gS (gS (gS ?_));refine e7 ?_;exact NQ) : p := h
theorem MT {p : Prop} (h : p := by
  refine fp ?_;refine fQ (i := 2) TZ rfl ?_;refine bW hh 3 [_,_] ?_;intro ws hh;replace hh : Hp _ (_ :: _ :: _ :: .blk _ _ [_, _] _ :: _) _ := hh;exact Nv) : p := h
theorem Oh {p : Prop} (h : p := by
  refine cV (k := (i + j)) bk.out aK.size rfl rfl TX TX TY ?_;refine bO hh (i := 3) (vs := [_, _, _]) rfl rfl (gO rfl) rfl aK.out rfl TX rfl ?_;intro ws hh;simp only [Uh, UH] at hh;rw [show cq (az NR.cells (S.map nR)) ((i + j) * 3) [.bool (nR (o + y)).neg, .string (nR (o + y)).bz, .int .i64 (nR (o + y)).e] = az NR.cells ((S.map nR).set (i + j) (nR (o + y))) from je NR.len TX, ← Wo, hset] at hh;refine fM ?_;refine bj (mI (aA (ai ?_)));replace hh := hh.sub (T8 _ (T4 _ (T4 _ (T4 _ UA))));refine ⟨⟨j + 1, TX, rfl, hh⟩, by show d - i + 1 - (j + 1) < d - i + 1 - j; omega, ?_⟩;exact dQ) : p := h
theorem ML {p : Prop} (h : p := by
  refine rq bk.out bk.out bk.out rfl (hh.aC (i := 0) rfl) TY ?_;exact GL) : p := h
theorem Oj {p : Prop} (h : p := by
  refine ⟨⟨i + 1, _, TX, rfl, hS3.symm, hh⟩, by show n - (i + 1) < n - i; omega, ?_⟩;exact dQ) : p := h
theorem I3 {p : Prop} (h : p := by
  exact ⟨none, 0, rfl, World.ownsRow_nil _ _ _ _, hh.below⟩) : p := h
theorem Ou {p : Prop} (h : p := by
  refine aI (aa (sr (mI ?_)));refine dn (aa (cT (sr ?_)));refine gB [_,_] (mI ?_);exact RY) : p := h
theorem NY {p : Prop} (h : p := by
  refine aa (cT (sr (aB (aa (au (aG (cd (aG (aG (cd (aG ?_)))))))))));exact Am) : p := h
theorem Ot {p : Prop} (h : p := by
  refine ⟨⟨i + 1, TX, rfl, by rw [ay hs, ay ht, he, hst], hh⟩, by show n - (i + 1) < n - i; omega, ?_⟩;exact dQ) : p := h
theorem NS {p : Prop} (h : p := by
  refine oZ ?_;exact ⟨rfl, hh.below⟩) : p := h
theorem Oe {p : Prop} (h : p := by
  refine Af ?_;exact ⟨rfl, hh.below⟩) : p := h
theorem MN {p : Prop} (h : p := by
  refine Ik ?_;exact ⟨rfl, hh.below⟩) : p := h
theorem Oo {p : Prop} (h : p := by
  refine ⟨⟨i, _, _, TX, rfl, by rw [d1]; rfl, by rw [d1]; exact hh⟩, by show ((i : Int) - 1 + 1).toNat < ((i : Int) + 1).toNat; omega, ?_⟩;exact dQ) : p := h
theorem MX {p : Prop} (h : p := by
  refine oC ?_;refine dS (dS (dS (dS (dS ?_))));refine yq (i := 18) rfl (fun ρ1 w1 hj hR => (show ρ1 33 = Value.bool _ from hR.2.2.1)) TY ?_;refine GK ?_;exact S5) : p := h
theorem ND {p : Prop} (h : p := by
  refine fp ?_;refine fQ (i := 2) TZ rfl ?_;refine bW hh 4 [_,_] ?_;intro ws hh;replace hh : Hp _ (_ :: _ :: _ :: _ :: .blk _ _ [_, _] _ :: _) _ := hh;exact RT) : p := h
theorem Jn {p : Prop} (h : p := by
  refine aa (cT (sr (aB (aa (au (cd (aG (aG (cd (aG ?_))))))))));exact Am) : p := h
theorem NU {p : Prop} (h : p := by
  refine aj (N := 9) (l := [.int .i64 v]) Tryz.func134 rfl rfl (by simp) ?_;refine sr (aB (aa (sr (mI ?_))));refine dW (mB (gT (mI (gT ?_))));refine Oy ?_;refine fL ?_;exact vc) : p := h
theorem DS {p : Prop} (h : p := by
  refine dW (aB (aa (au ?_)));refine cZ ?_;exact ⟨rfl, hh.below⟩) : p := h
theorem Em {p : Prop} (h : p := by
  exact ⟨g, og, rfl, hh.sub (T4 _ (Vh _))⟩) : p := h
theorem Nt {p : Prop} (h : p := by
  refine mB ?_;refine gS (gS ?_);refine ju ?_;refine gS (gS (gS ?_));refine e7 ?_;refine uJ ?_;refine cG hh 0 [_,_] ?_;exact Kf) : p := h
theorem NH {p : Prop} (h : p := by
  refine mB ?_;refine gS ?_;refine ju ?_;refine ju ?_;refine gS ?_;refine e7 ?_;refine aB (aa (au ?_));exact Am) : p := h
theorem MS {p : Prop} (h : p := by
  refine aF (hpu _ (hT.hp hh) hh.below) al.out rfl TY ?_;rintro e_ w51 ⟨g, og, rfl, h3⟩;refine ⟨_, rfl, ?_⟩;replace hh := hh.join h3;simp only [Ud, Ub] at hh;refine du ?_;refine du ?_;exact Rm) : p := h
theorem Nw {p : Prop} (h : p := by
  have hik : i = k := by
   rcases UP i k with h | h
   ·exact absurd ⟨i, h, h2, h3⟩ hex
   ·omega
  subst hik;refine ⟨i, h2, h3, fun j hj => ?_⟩
  cases hc2 : L.getD j false with
  | true => rfl
  | false => exact absurd ⟨j, hj, TX, hc2⟩ hex) : p := h
theorem Ob {p : Prop} (h : p := by
  have h1 : L.toList.countP (fun b => b) = L.toList.length := by
   have := hI.ls; simp only [Array.length_toList]; omega
  have h2 := List.countP_eq_length.1 h1;have h3 : i < L.size := by rw [hI.ls, hnn]; exact hi
  have := h2 L[i] (by simp);simpa [h3] using this) : p := h
theorem J4 {p : Prop} (h : p := by
  refine ⟨⟨i + 1, TX, rfl, hh⟩, by show n - (i + 1) < n - i; omega, ?_⟩;exact dQ) : p := h
theorem DK {p : Prop} (h : p := by
  refine bW hh 0 [_,_] ?_;intro ws hh;replace hh : Hp _ (.blk _ _ [_, _] _ :: _) _ := hh;refine aa (au (aG ?_));exact Tb) : p := h
theorem N9 {p : Prop} (h : p := by
  refine bW hh 1 [_,_] ?_;intro ws hh;replace hh : Hp _ (_ :: .blk _ _ [_, _] _ :: _) _ := hh;refine fM ?_;refine bj (mI (aA (ai ?_)));replace hh := hh.sub (UM _ _);refine ⟨⟨i + 1, _, _, TX, rfl, hS3.symm, hpl, by unfold IR.v at hba ⊢; omega, hh⟩, by show n - (i + 1) < n - i; omega, ?_⟩;exact dQ) : p := h
theorem EP {p : Prop} (h : p := by
  refine bW hh 1 [_,_] ?_;intro ws hh;replace hh : Hp _ (_ :: .blk _ _ [_, _] _ :: _) _ := hh;refine aI (aa (au ?_));exact Qc) : p := h
theorem Nc {p : Prop} (h : p := by
  obtain rfl : j = d - i + 1 := TX;rw [F5 TX] at hh;refine sr ?_;refine y7 ?_;refine bj (mI (aA (ai ?_)));replace hh := hh.sub (T8 _ (T8 _ (T4 _ UA)));refine ⟨⟨i + 1, TX, rfl, hh⟩, by show n - (i + 1) < n - i; omega, ?_⟩;exact dQ) : p := h
theorem NQ {p : Prop} (h : p := by
  refine wv ?_;refine bj (mI (aA (ai ?_)));rw [e1, hac, ← hnew] at hh;exact Oi) : p := h
theorem MW {p : Prop} (h : p := by
  have hil : i < l.length := TX;have hE := hedge i hil;have ho : l.toArray[i]? = some l[i] := by simp [hil]
  rw [ho] at hE;have hmem : i ∈ Region.ready .any l.toArray L := (hready_spec i).2 ⟨hil, by
   have h3 : i < L.size := by rw [hI.ls, hnn]; exact hil
   rw [Vb] at hu ⊢;rw [Wg h3] at hu ⊢;simpa using hu, l[i], ho, fun e he hb => by
   have := Xg.1 hE e he;simp only [hb, Bool.not_true, U4, Up] at this;exact hlow _ this⟩
  rw [hnil] at hmem
  cases hmem) : p := h
theorem NN {p : Prop} (h : p := by
  refine I5 ?_;refine gk ?_;refine Ig ?_;intro ws hh;simp only [Uh] at hh;rw [hand, es, Uo, cM (by rw [hll]; omega), oN, ← b1, hfk] at hh;refine aa (ao (mI ?_));refine lY (s := 1) (m := 2) rfl rfl TY TY TY ?_;refine aI (aA (bE (ai (ao (mI ?_)))));refine bj (aI (aA (ai ?_)));rw [es];refine ⟨⟨i + 1, TX, rfl, by rw [b2]; rfl, hh⟩, by show K - (i + 1) < K - i; omega, ?_⟩;exact dQ) : p := h
theorem Nv {p : Prop} (h : p := by
  refine fp ?_;refine kd 3 TY TZ TY TZ TZ ?_;refine bW hh 2 [_,_] ?_;intro ws hh;replace hh : Hp _ (_ :: _ :: .blk _ _ [_, _] _ :: _) _ := hh;refine aB (aa (au ?_));refine SS (eO rfl (eN (vs := [_, _]) aK.out (hh.ck (i := 3) (n := 2) rfl rfl) rfl) (eO rfl (eN (vs := [_, _]) aK.out (hh.ck (i := 2) (n := 2) rfl rfl) rfl) (j4 (mw rfl) gm))) ?_;exact ⟨rfl, hh.below⟩) : p := h
theorem D8 {p : Prop} (h : p := by
  refine gg (hc _ hh.below) al.out rfl rfl TY ?_;rintro e_ w16 ⟨rfl, hb_⟩;refine ⟨_, rfl, ?_⟩;replace hh := hh.ext hb_;refine wv ?_;refine bj (mI (aA (ai ?_)));refine ⟨⟨i + 1, TX, rfl, by rw [ay hz, WO, hall, WQ, W6, gz]; rfl, hh⟩, by show n - (i + 1) < n - i; omega, ?_⟩;exact dQ) : p := h
theorem NT {p : Prop} (h : p := by
  refine fp ?_;refine fQ (i := 8) TZ rfl ?_;refine gg (hsm _ (hT.hp hh)) al.out rfl rfl TY ?_; rintro e_ w41 ⟨rfl, hb_⟩; refine ⟨_, rfl, ?_⟩; replace hh := hh.ext hb_;refine fp ?_;refine fQ (i := 9) TZ rfl ?_;refine Bf ?_;intro b42 w42 hh;refine fp ?_;refine fQ (i := 10) TZ rfl ?_;refine pK ?_;intro A43 c43 w43 hh;simp only [Uh, UH] at hh;replace hh := hh.sub (UM _ _);refine fp ?_;refine kd 15 TY TZ TY TZ TZ ?_;refine aL (aL (aL (aA (bE (bE (ai ?_))))));replace hh := hh.sub (T4 _ UA);refine ⟨⟨_, n - 1, c - 1, X, _, m - 1, c2 - 1, Y, O ++ [⟨x.m, nR (x.c.d + y.c.d)⟩], A43, c43, rfl, rfl, ?_, TX, TX, hSt, hSt2, hmg.both h1 h2 hk, ?_⟩, by show (n - 1) + (m - 1) < n + m; omega, ?_⟩
  ·exact Sp
  ·rw [Ua, bY];exact hh
  ·exact dQ) : p := h
theorem Na {p : Prop} (h : p := by
  have zy := zx.mul zu;have hm2 := fun A cc w1 hT1 hS1 => eI A 2 cc [nR x, nR u] w1 hT1 hS1 (by simpa using ⟨zx.ok TX, zu.ok TX⟩) 600000 (by simpa [bR] using ⟨zx.mono TX, zu.mono TX⟩) TX TX;rw [show g8 ([nR x, nR u].map NR.d) = x * u by simp only [Ut, UR, bR]; show 1 * x * _ = _; rw [V4]] at hm2;generalize x * u = y at *;have hsum := fun A cc w1 hT1 hS1 => iY A 2 cc [nR o, nR y] w1 hT1 hS1 (by simpa using ⟨zo.ok TX, zy.ok TX⟩) 2000000 (by simpa [bR] using ⟨zo.mono TX, zy.mono TX⟩) TX;rw [show mg ([nR o, nR y].map NR.d) = o + y by simp only [Ut, UR, bR, kS]] at hsum;have hrl := eP NR.len (S.map nR);refine aV 16 [[(4, none)], [(5, none)], [(7, none)], [(38, some 1), (39, some 2)], [(4, none)], [(5, none)], [(7, none)], [(42, some 5), (43, some 6)], [(41, some 4), (44, some 7)], [(45, some 8)], [(6, none)], [(8, none)], [(47, some 10), (48, some 11)], [(49, some 12)], [(46, some 9), (50, some 13)], [(51, some 14)]] [(15, 52), (14, 51), (13, 50), (12, 49), (11, 48), (10, 47), (9, 46), (8, 45), (7, 44), (6, 43), (5, 42), (4, 41), (3, 40), (2, 39), (1, 38), (0, 37)] hh mixed TZ ?_;refine fT ?_;refine dF ?_;refine dF ?_;refine rS ?_
  refine fT ?_;refine dF ?_;refine dF ?_;refine rS ?_;refine Ke ((i + j)) ?_;refine r9 [_,_,_] (fun _ hj => hj.hp.iz (f := NR.cells) (x := nR o) (l := S.map nR) (i := 3) rfl NR.len TY hon) ?_;refine fU 2 [_,_,_] ?_;refine fU 0 [_,_,_] ?_;refine tQ [_,_,_,_,_,_] ?_;refine aT (i := 13) (Is (.agg #[.bool (nR y).neg, .string (nR y).bz, .int .i64 (nR y).e])) Is.ext ?_ ?_
  ·exact St
  refine tQ [_,_,_,_,_,_] ?_;refine aT (i := 15) (Is (.agg #[.bool (nR (o + y)).neg, .string (nR (o + y)).bz, .int .i64 (nR (o + y)).e])) Is.ext ?_ ?_
  ·exact Si
  refine aR ?_;intro f W hJ hV;have hb_11 := hJ.bl;obtain ⟨v52, v51, v50, v49, v48, v47, v46, v45, v44, v43, v42, v41, v40, v39, v38, v37, _⟩ := hV;obtain ⟨A49, c49, e49, f49⟩ : Rows _ _ _ (f 12) W := v49;obtain ⟨A51, c51, e51, f51⟩ : Rows _ _ _ (f 14) W := v51;replace hh := hJ.hp;refine aY (br (ae v52 (ae e51 (ae v50 (ae e49 (ae v48 (ae v47 (ae v46 (ae v45 (ae v44 (ae v43 (ae v42 (ae v41 (ae v40 (ae v39 (ae v38 (ae v37 aX))))))))))))))))) ?_;dsimp only [cf];clear e49 e51 hJ;exact Oh) : p := h
theorem Oc {p : Prop} (h : p := by
  refine dn (aB (aa (au ?_)));refine cZ ?_;exact ⟨by rw [Um hg], hh.below⟩) : p := h
theorem Ny {p : Prop} (h : p := by
  refine cZ ?_;exact ⟨_, rfl, ⟨fun _ => LI TX TX he, fun _ => rfl⟩, hh.below⟩) : p := h
theorem MZ {p : Prop} (h : p := by
  rw [Uy (by rw [V6]; omega), Uy TX]
  rfl) : p := h
theorem M5 {p : Prop} (h : p := by
  have h1 : bN m ≠ 0 := fun h => h0 (by rw [h, mX]);rw [Um h1];exact ⟨rfl, hh.below⟩) : p := h
theorem M8 {p : Prop} (h : p := by
  refine aS (aB (aa (au ?_)));refine Ku ?_;rw [Um TX];exact ⟨rfl, hh.below⟩) : p := h
theorem Jd {p : Prop} (h : p := by
  rw [Ue, UY TX]
  rfl) : p := h
theorem M9 {p : Prop} (h : p := by
  refine dn (aB (aa (au ?_)));refine cZ ?_;exact ⟨by rw [UB TX], hh.below⟩) : p := h
theorem HP {p : Prop} (h : p := by
  exact ⟨0, T6 _, rfl, fun t ht => (nomatch ht), hh⟩) : p := h
theorem Ol {p : Prop} (h : p := by
  rw [VR];split
  ·exact List.nodup_nil
  ·exact V2.2 ⟨by simp, List.nodup_nil⟩) : p := h
theorem Ni {p : Prop} (h : p := by
  obtain ⟨cs, h6, h7⟩ := h5 i TX;rw [hc] at h6;obtain ⟨a, rfl, h8⟩ := one _ _ _ h7;exact ⟨a, h6, h8⟩) : p := h
theorem Ja {p : Prop} (h : p := by
  rw [ho] at ho'; injection ho' with ho'; subst ho'; exact hed) : p := h
theorem Nr {p : Prop} (h : p := by
  exact ⟨⟨TX, (hcp.my o ho).2, by rw [e2]; exact po.ok, by rw [e2]; exact po.sz⟩, by rw [e2]; exact pl⟩) : p := h
theorem Nh {p : Prop} (h : p := by
  unfold q9;split
  ·rename_i hpe;have := iA.1 (ct hpe).1;rw [fi];omega
  ·exact T6 _) : p := h
theorem Q7 {p : Prop} (h : p := by
  refine cZ ?_;rw [← hcut, Ua, Us, U0 TX];exact ⟨rfl, hh.below⟩) : p := h
theorem RA {p : Prop} (h : p := by
  have := hp t (jh t ht) (i + 1) (by rw [Uq]; omega);rwa [show j + 1 + i = j + (i + 1) by omega]) : p := h
theorem RZ {p : Prop} (h : p := by
  exact ⟨0, 0, none, [], [], T6 _, rfl, rfl, rfl, ⟨fun j g o _ h => (nomatch h), fun o h => (nomatch h)⟩, hh⟩) : p := h
theorem QJ {p : Prop} (h : p := by
  have h1 : bN m = 0 := by rw [← mX] at h0; exact JD h0
  rw [UB TX];exact ⟨rfl, hh.below⟩) : p := h
theorem Rp {p : Prop} (h : p := by
  induction xs generalizing ys c with
  | nil => exact Dg.nil
  | cons x xs ih => exact Dg.cons (Uw _ hB) (ih _ _)) : p := h
theorem QF {p : Prop} (h : p := by
  cases p with
  | nil => show Sz k (nR 0).d; rw [bR]; exact Sz.zero k
  | cons t p => exact (hok t Uc).2) : p := h
theorem R1 {p : Prop} (h : p := by
  refine aS (aa (au ?_));refine cZ ?_;rw [T9 TX] at hT;rw [hT];exact ⟨rfl, hh.below⟩) : p := h
theorem QZ {p : Prop} (h : p := by
  rw [show (18446744073709551616 : Nat) = 2 ^ 64 from rfl, ← UO];exact UL TX TX) : p := h
theorem PS {p : Prop} (h : p := by
  rw [ig TX (gh TX _ _), di hbd]) : p := h
theorem PF {p : Prop} (h : p := by
  exact ⟨PX.nil, eX.err he, rfl, (hh.sub (Vh _)).CC⟩) : p := h
theorem Qu {p : Prop} (h : p := by
  rw [ay hx] at ht
  rcases UD.1 ht with ht | ht
  ·exact hall t ht
  ·rw [Un.1 ht]; exact Pn hf) : p := h
theorem Sp {p : Prop} (h : p := by
  show Value.slice _ (O.length + 1) _ = Value.slice _ (O ++ [(⟨x.m, nR (x.c.d + y.c.d)⟩ : TR)]).length _;rw [Ua]
  rfl) : p := h
theorem LB {p : Prop} (h : p := by
  rw [hd] at h1;rw [hd];exact ⟨_, _, rfl, h1, hh.below⟩) : p := h
theorem RC {p : Prop} (h : p := by
  unfold Program.cellsOf at hc
  cases hi : P.info? fd.type with
  | none => simp [hi] at hc
  | some i => exact ⟨i, rfl, by simpa [hi] using hc⟩) : p := h
theorem P1 {p : Prop} (h : p := by
  cases rest with
  | nil => simp at hlen; omega
  | cons x r => exact ⟨x, r, rfl⟩) : p := h
theorem QW {p : Prop} (h : p := by
  refine VO fun hn => hall fun i hi => ?_
  cases hc2 : L.getD i false with
  | true => rfl
  | false => exact absurd ⟨i, hi, hc2⟩ hn) : p := h
theorem Q6 {p : Prop} (h : p := by
  refine full L a w (fuel + 1) hI hall ?_;have hL : L = jq l.length m := xI (by rw [hI.ls, hnn]) hml hall hI.tl;rw [hL, CF] at hc;omega) : p := h
theorem RW {p : Prop} (h : p := by
  have h2 := hD (i + 1) e (by simpa using he);refine ⟨h2.1, fun t ht => ?_⟩;have h3 := h2.2 t (jh t ht);rwa [show j + 1 + i = j + (i + 1) by omega]) : p := h
theorem Rw {p : Prop} (h : p := by
  unfold co;split
  ·cases h : X[il ds ((cL ds p).set a i)]? with
   | none => exact Sz.zero k
   | some y => exact hx y (T7 h)
  ·exact Sz.zero k) : p := h
theorem Rv {p : Prop} (h : p := by
  refine ⟨TX, ?_⟩;by_cases hc : x0 + 2 ^ i * (x1 % 2) < y0 + 2 ^ i * (y1 % 2)
  ·rw [T2 hc]; rw [hlt] at hc; omega
  ·rw [T3 hc]; rw [hlt] at hc; omega) : p := h
theorem O3 {p : Prop} (h : p := by
  rcases VZ n with h | h
  ·exact h
  ·obtain ⟨_, h1, _⟩ := hS.2 h; cases h1) : p := h
theorem QQ {p : Prop} (h : p := by
  refine Dh ?_;refine cZ ?_;rw [hbad (by simp [cz]; omega), T2 rfl];exact ⟨rfl, hh.below⟩) : p := h
theorem Ri {p : Prop} (h : p := by
  have e : ns = ns.take i ++ d :: ns.drop (i + 1) := by rw [← gJ h, UZ]
  conv => lhs; rw [e]
  rw [List.reverse_append, Ww, UI]
  rfl) : p := h
theorem Re {p : Prop} (h : p := by
  refine bg (aa (cT (sr (aS (aB (aa (au (aG ?_))))))));refine Ku ?_;rw [Nat.sub_eq_zero_of_le TX, UB TX, mX];exact ⟨rfl, hh.below⟩) : p := h
theorem St {p : Prop} (h : p := by
  intro ρ1 w1 hj hR;obtain ⟨A49, c49, h49, s49⟩ := hR.1;exact bf rfl (aO al.out (aw h49 aZ)) (hm2 A49 c49 _ (hT.hp hj.hp) s49) (fun _ _ hq => ⟨_, hq.1, hq.2, rfl⟩)) : p := h
theorem Si {p : Prop} (h : p := by
  intro ρ1 w1 hj hR;obtain ⟨A51, c51, h51, s51⟩ := hR.1;exact bf rfl (aO al.out (aw h51 aZ)) (hsum A51 c51 _ (hT.hp hj.hp) s51) (fun _ _ hq => ⟨_, hq.1, hq.2, rfl⟩)) : p := h
theorem Oz {p : Prop} (h : p := by
  rw [Vb] at hun ⊢;rw [Wg hiL] at hun ⊢;simpa using hun) : p := h
theorem OZ {p : Prop} (h : p := by
  intro ρ1 w1 hj hR;exact let ⟨g, u, e1, e2⟩ := hR.1; fG rfl (eH e1) ⟨Below.refl _ _, g, u, rfl, e2⟩) : p := h
theorem QM {p : Prop} (h : p := by
  have e1 : (O ++ X ++ Y).length = O.length + n + m := by rw [Ua, Ua]; omega
  exact ⟨O ++ X ++ Y, A74, c74, hd, by rw [e1], by rw [e1, bY, bY]; exact hh⟩) : p := h
theorem QV {p : Prop} (h : p := by
  refine aa (cT (sr (aS (aI (aa (au (aG (cd (aG (aG (cd (aG ?_))))))))))));refine Ku ?_;obtain ⟨e1, e2⟩ := OB hx (by simp [cz]; omega);rw [e1, e2];exact ⟨rfl, hh.below⟩) : p := h
theorem Qz {p : Prop} (h : p := by
  intro ρ1 w1 hj hR;exact fG rfl (g7 (k := a) bk.out aK.size ((show ρ1 65 = Value.slice _ _ _ from hR.1).trans gy) (show ρ1 66 = Value.int _ _ from hR.2.1) TX TX) ⟨Below.refl _ _, rfl⟩) : p := h
theorem R5 {p : Prop} (h : p := by
  refine sr ?_;refine Ij ?_;refine cZ ?_;exact ⟨_, _, rfl, hh.sub (T4 _ (Vh _))⟩) : p := h
theorem P3 {p : Prop} (h : p := by
  intro ρ1 w1 hj hR;exact let ⟨g, u, e1, e2⟩ := hR.1; fG rfl (fB (vs := [_, _]) e1 rfl) ⟨Below.refl _ _, rfl⟩) : p := h
theorem Ql {p : Prop} (h : p := by
  refine ua rfl (aw (Cc rfl) (aw (Cc rfl) aZ)) TY ?_;refine jW (by first | exact rX rfl | exact sg rfl) TY ?_;refine aa (au ?_);refine cZ ?_;exact ⟨_, _, rfl, hh⟩) : p := h
theorem Ra {p : Prop} (h : p := by
  refine xc ?_;refine dn (aa (cT (sr (aB (aa (au (aG ?_)))))));refine cZ ?_;exact ⟨_, rfl, ⟨fun h => (nomatch h), fun h => absurd (by rw [← hla, ← hlb, h]) hnm⟩, hh.below⟩) : p := h
theorem QE {p : Prop} (h : p := by
  have h3 := hdep (i - m) TX;rw [show m + (i - m) = i by omega] at h3;have h4 : (i - m == 0) = false := by simp; omega
  rw [h4, U4] at h3;have := jS hM hI.cl i m hed' h3;rw [hI.tl m (T5 _)] at this
  cases this) : p := h
theorem RV {p : Prop} (h : p := by
  have h1 : (Op.equal 65 (.agg #[.bool s, .string a, .int .i64 e]) (.agg #[.bool s', .string a', .int .i64 e'])).run Tryz.prog w = .ok r w := by rw [← hr]; exact J6 9997 s s' a a' e e' w
  simp only [execOp, hx, hy];simp [eqGuard, binOp, h1]) : p := h
theorem PM {p : Prop} (h : p := by
  intro ρ1 w1 hj hR;exact let ⟨g, u, e1, e2⟩ := hR.1; fG rfl (fB (vs := [_, _]) e1 rfl) ⟨Below.refl _ _, g, u, rfl, e2⟩) : p := h
theorem RH {p : Prop} (h : p := by
  refine ⟨hI.nd, hI.sz, fun s => ?_⟩;by_cases hs : ∃ i, (i, s) ∈ ds
  ·obtain ⟨i, hi⟩ := hs;rw [(lN _ ds s hnd).1 i hi, (hdsm i s hi).2]
  ·rw [(lN _ ds s hnd).2 fun i hi => hs ⟨i, hi⟩];exact hI.Ky s fun i hi _ hd => hs ⟨i, hpre i s hi hd⟩) : p := h
theorem PC {p : Prop} (h : p := by
  have := uw n zc;rw [hzl] at this;unfold madeCells;rw [hzc];have e2 : zc.toArray.size = sz := by simpa using hzl
  rw [e2, this]) : p := h
theorem QB {p : Prop} (h : p := by
  have h1 : M < 256 ^ (aU 256 M).length := oR TX M;rw [H5 TX h1, UW, W8, UF, Fs (fun d hd => (dN (B := 256) TX M).1 d (We.1 hd)), sb, List.map_reverse]) : p := h
theorem Ry {p : Prop} (h : p := by
  obtain rfl : i = n := TX;rw [T9 TX] at hh;refine ah (sr (mI (mL (aJ ?_))));refine bg (aa (cF (a6 (aD (aD (bB (ai (sr (mL (aL (aa (au ?_))))))))))));refine cZ ?_;exact ⟨_, _, rfl, hh⟩) : p := h
theorem Rh {p : Prop} (h : p := by
  rintro e a' w' ⟨ρ', hf', hq⟩;have e1 : (fun i => a.tmps.getD i undef) = ρ := funext hf.at_;have e2 : (fun i => a'.tmps.getD i undef) = ρ' := funext hf'.at_
  cases e with
  | normal => exact ⟨⟨ρ', hf', hq.1⟩, by rw [e1, e2]; exact hq.2⟩
  | _ => exact ⟨ρ', hf', hq⟩) : p := h
theorem Pr {p : Prop} (h : p := by
  refine aI (aa (sr (mI ?_)));refine dn (aa (cT (sr (mI (aI (aa (au (aG ?_))))))));refine cZ ?_;exact ⟨rfl, hh.below⟩) : p := h
theorem RG {p : Prop} (h : p := by
  have h1 : z.natAbs = y.natAbs * 2 ^ j := by rw [← hyz, V5, Wt]; rfl
  have h2 : y.natAbs * 1 ≤ y.natAbs * 2 ^ j := Uz _ (UE TX);have h3 : bF y.natAbs ≤ 8 * a.size := dx TX;rw [lW];omega) : p := h
theorem Qe {p : Prop} (h : p := by
  refine aa (cT (sr (aI (aa (au (aG (cd (aG (aG (cd (aG ?_)))))))))));refine cZ ?_;exact ⟨by rw [hc], hh.below⟩) : p := h
theorem Qp {p : Prop} (h : p := by
  rw [UW, W8, UF] at hh;refine ah (sr (mI (mL (aJ ?_))));refine bg (aa (cF (a6 (aD (aD (bB (ai (sr (mL (aL (aa (au ?_))))))))))));refine cZ ?_;exact ⟨_, rfl, hh.at_ (i := 0) rfl, hh.below⟩) : p := h
theorem R3 {p : Prop} (h : p := by
  refine bW hh 0 [_,_,_,_,_,_] ?_;intro ws hh;replace hh : Hp _ (.blk _ _ [_, _, _, _, _, _] _ :: _) _ := hh;refine aa (au ?_);refine KT (eO rfl (eN (vs := [_, _, _, _, _, _]) aK.out (hh.ck (i := 0) (n := 6) rfl rfl) rfl) gm) ?_;exact ⟨rfl, hh.below⟩) : p := h
theorem Ru {p : Prop} (h : p := by
  have hr0 : rest = [] := VC TX;subst hr0;refine sr ?_;refine bg (aa (ah (cF (a6 (aD (aD (bB ?_)))))));refine PQ (by first | exact .inr rfl | exact .inl rfl) rfl  ?_;rw [UF, ie, UF] at *;rw [← heq];exact ⟨rfl, hh⟩) : p := h
theorem Qq {p : Prop} (h : p := by
  rw [hu];refine bW hh 1 [_,_] ?_;intro ws hh;replace hh : Hp _ (_ :: .blk _ _ [_, _] _ :: _) _ := hh;refine aa (au ?_);refine Af ?_;rw [T9 TX] at hS2;rw [hS2];exact ⟨rfl, hh.below⟩) : p := h
theorem OK {p : Prop} (h : p := by
  intro w9 hh;refine ⟨(eO rfl (eN (vs := [_, _, _]) aK.out (hh.ck (i := 0) (n := 3) rfl rfl) rfl) (j4 (la rfl) gm)), ?_⟩;exact ⟨rfl, hh.below⟩) : p := h
theorem P9 {p : Prop} (h : p := by
  refine sr ?_;refine Ij ?_;refine cZ ?_;exact ⟨_, _, rfl, hh⟩) : p := h
theorem KX {p : Prop} (h : p := by
  exact T1) : p := h
theorem GL {p : Prop} (h : p := by
  refine aS (aa (au ?_));refine cZ ?_;exact ⟨rfl, hh.below⟩) : p := h
theorem Ki {p : Prop} (h : p := by
  refine AR ?_;refine cZ ?_;exact ⟨rfl, hh.below⟩) : p := h
theorem Q0 {p : Prop} (h : p := by
  dsimp only [cf];clear hJ;refine aQ rfl rfl TY (Mj (s := s) (t := t) rfl rfl hst) ?_;skip;refine aa (cT (sr (aB (aa (au (cd (aG (aG (cd (aG ?_))))))))));refine cZ ?_;refine ⟨_, rfl, ⟨fun h => (nomatch h), fun h => absurd ?_ hst⟩, hh.below⟩;rw [h, ht] at hs;exact (UN hs).symm) : p := h
theorem OE {p : Prop} (h : p := by
  rw [hds, We, Vd];refine ⟨(some d, i), ?_, rfl⟩;rw [List.mem_zipIdx_iff_getElem?];rw [Ue, UY hi];simp only [Vx, hd]) : p := h
theorem PY {p : Prop} (h : p := by
  refine aa (cT (sr (aL (aa (au (aG (cd (aG (aG (cd (aG ?_)))))))))));refine cZ ?_;simp only [xB, hf];exact I3) : p := h
theorem OV {p : Prop} (h : p := by
  refine sr ?_;refine Ij ?_;refine cZ ?_;exact ⟨_, _, rfl, hh.at_ (i := 0) rfl, hh.below⟩) : p := h
theorem Aj {p : Prop} (h : p := by
  refine aI (aa (au ?_));refine cZ ?_;exact ⟨rfl, hh.below⟩) : p := h
theorem ON {p : Prop} (h : p := by
  intro A7 c7 w7 hh;simp only [Uh] at hh;rw [Uv] at hh ⊢;rw [Ub] at hh;refine aL (aa (au ?_));refine cZ ?_;exact ⟨_, _, rfl, hh.at_ (i := 0) rfl, hh.below⟩) : p := h
theorem RO {p : Prop} (h : p := by
  refine sr ?_;refine cD hh [_,_] ?_;intro b2 w2 hh;refine cD hh [_,_] ?_;intro b3 w3 hh;refine aB (aa (sr (bH ?_)));refine bG hh 1 ?_;refine bH ?_;refine bG hh 0 ?_;refine db (mB ?_);refine gS (gS (gS (gS ?_)));refine ju ?_;refine e7 ?_;refine aB (aa (au ?_));refine cZ ?_;exact ⟨_, rfl, ⟨fun h => (nomatch h), fun h => absurd h.1 hv⟩, hh.below⟩) : p := h
theorem Q3 {p : Prop} (h : p := by
  refine aI (aa (sr (mI ?_)));refine dn (aa (cT (sr ?_)));refine gB [_,_] (mI ?_);refine bW hh 0 [_,_] ?_;intro ws hh;replace hh : Hp _ (.blk _ _ [_, _] _ :: _) _ := hh;refine aI (aa (au (aG ?_)));refine Ba ?_;exact ⟨FX.nil, Out.err hE, rfl, (hh.sub (Vh _)).QS⟩) : p := h
theorem Ox {p : Prop} (h : p := by
  refine sr (aL (aa (ah (sr (mL ?_)))));refine rY bk.out rfl rfl TY ?_;refine aa (cT (sr (aL (aa (au (aG ?_))))));refine cZ ?_;exact ⟨_, _, rfl, World.ownsRow_nil _ _ _ _, hh.below⟩) : p := h
theorem OY {p : Prop} (h : p := by
  have p1 := hpre i d hi h1;have p2 := hpre j d hj h2;have e1 := ((lN (ρ := ρ) (fun i => .int .i64 i) ds d hnd).1 i p1).symm.trans ((lN (ρ := ρ) (fun i => .int .i64 i) ds d hnd).1 j p2);injection e1 with _ e1
  omega) : p := h
theorem Qo {p : Prop} (h : p := by
  refine sr ?_;refine mM ?_;refine cG hh 0 [_,_,_] ?_;refine bW hh 1 [_,_,_] ?_;intro ws hh;replace hh : Hp _ (_ :: .blk _ _ [_, _, _] _ :: _) _ := hh;refine aa (au ?_);refine KT (eO rfl (eN (vs := [_, _, _]) aK.out (hh.ck (i := 1) (n := 3) rfl rfl) rfl) gm) ?_;rw [T9 TX] at hS2;rw [hS2];exact ⟨rfl, hh.below⟩) : p := h
theorem Rg {p : Prop} (h : p := by
  refine aa (cF (a6 (aD (aD (bB (ai (ah (sr (mI ?_)))))))));refine dn (aa (cT (sr ?_)));refine gB [_,_] (mI ?_);refine bW hh 2 [_,_] ?_;intro ws hh;replace hh : Hp _ (_ :: _ :: .blk _ _ [_, _] _ :: _) _ := hh;refine aI (aa (au (aG ?_)));refine rJ ?_;exact ⟨PX.nil, eX.err he0, rfl, (hh.sub (Vh _)).CC⟩) : p := h
theorem PJ {p : Prop} (h : p := by
  refine bW hh 1 [_,_,_] ?_;intro ws hh;replace hh : Hp _ (_ :: .blk _ _ [_, _, _] _ :: _) _ := hh;refine aa (au ?_);refine KT (eO rfl (eN (vs := [_, _, _]) aK.out (hh.ck (i := 1) (n := 3) rfl rfl) rfl) gm) ?_;exact ⟨rfl, hh.below⟩) : p := h
theorem RB {p : Prop} (h : p := by
  simp only [cq];rw [← htake];have h5 : o + vs.length ≤ m * sz := TX;have h6 : m * sz ≤ cur.toList.length := by rw [← hcl, hcur]; exact hle
  rw [List.take_take, U0 TX, List.drop_take, UI, UI, List.take_append, List.take_append];simp only [Us, U0 (show o ≤ cur.toList.length by omega)];rw [T9 (l := cur.toList.take o) (by simp; omega), T9 (l := vs) TX];congr 2;congr 1;omega) : p := h
theorem Am {p : Prop} (h : p := by
  refine cZ ?_;exact ⟨_, rfl, fun h => (by cases h), hh.below⟩) : p := h
theorem vc {p : Prop} (h : p := by
  refine aB (aa (au ?_));refine cZ ?_;exact ⟨rfl, hh.below⟩) : p := h
theorem O5 {p : Prop} (h : p := by
  rw [T9 TX] at hall;refine sr ?_;refine Eo ?_;refine cZ ?_;exact ⟨_, rfl, ⟨fun h => absurd h TY, fun h => by rw [hall] at h; cases h⟩, hh.below⟩) : p := h
theorem RD {p : Prop} (h : p := by
  intro L a w hI hc;have hall : ∀ i, i < l.length → L.getD i false = true := fun i hi => by
   exact Ob
  have hmn : l.length ≤ 0 + m := by
   rcases UP m l.length with h | h
   ·have h1 := hall m h;rw [hI.tl m (T5 _)] at h1
    cases h1
   ·omega
  exact full L a w 0 hI (fun i hi => hall i TX) hmn) : p := h
theorem Qw {p : Prop} (h : p := by
  refine sr ?_;refine cD hh [_,_] ?_;intro b2 w2 hh;refine cD hh [_,_] ?_;intro b3 w3 hh;refine aB (aa (sr (bH ?_)));refine bG hh 1 ?_;refine bH ?_;refine bG hh 0 ?_;refine db (mB (gT (bH (gT ?_))));refine bG hh 1 ?_;refine gT (bH (gT ?_));refine bG hh 0 ?_;refine aH rfl rfl ?_;refine aF (ht _ hh.below) al.out rfl TY ?_;rintro e_ w15 ⟨v_, rfl, hv_, hb_⟩;refine ⟨_, rfl, ?_⟩;replace hh := hh.ext hb_;refine fL ?_;refine aB (aa (au ?_));refine cZ ?_;exact ⟨v_, rfl, hv_.trans ⟨fun h => ⟨hv, h⟩, fun h => h.2⟩, hh.below⟩) : p := h
theorem Ro {p : Prop} (h : p := by
  have hdm : j / sz * sz + j % sz = j := by rw [UC]; exact VF j sz
  have hmod : j % sz < sz := Uw _ h0;have hj : j / sz < l.length := by
   have := (Uk.1 hu).1;rw [eP hf] at this;exact Nat.div_lt_of_lt_mul (by rw [UC]; exact this)
  obtain ⟨x, hx⟩ := ak hj;have h6 := uf hf hx;have h7 : (f x)[j % sz]? = some u := by
   rw [← h6, VG, T2 hmod, VD, hdm];exact hu
  have h8 := (World.cells?_some (hp _ _ hx).1).2.2 (j % sz) hmod;rw [h7, lU, hdm] at h8;exact h8) : p := h
theorem RM {p : Prop} (h : p := by
  have hJ0 : J ({ w with drawn := w.drawn + 1 } : World) := hJ w _ h0 ⟨rfl, rfl, rfl, T5 _, fun _ _ => rfl⟩;have hr0 : ∀ i, (Array.replicate l.toArray.size false).getD i false = false := fun i => by
   rw [Vb, Array.getElem?_replicate]; split <;> rfl
  refine key _ _ _ _ ⟨hf.nd, hf.sz, hJ0, by simp, fun k o _ hk => ?_, fun k _ => hr0 k, fun i d _ hi => ?_, fun s _ => hf.at_ s, fun i _ hi => ?_, fun i _ j _ _ hi => ?_⟩ ?_
  ·rw [hr0] at hk; cases hk
  ·rw [hr0] at hi; cases hi
  ·rw [hr0] at hi; cases hi
  ·rw [hr0] at hi; cases hi
  ·simp [List.countP_replicate]) : p := h
theorem RY {p : Prop} (h : p := by
  refine bW hh 0 [_,_] ?_;intro ws hh;replace hh : Hp _ (.blk _ _ [_, _] _ :: _) _ := hh;refine aI (aa (au (aG ?_)));refine Ba ?_;exact ⟨PX.nil, eX.err TX, rfl, (hh.sub (Vh _)).CC⟩) : p := h
theorem Rm {p : Prop} (h : p := by
  refine bW hh 2 [_,_] ?_;intro ws hh;replace hh : Hp _ (_ :: _ :: .blk _ _ [_, _] _ :: _) _ := hh;refine aI (aa (au ?_));refine rJ ?_;exact Em) : p := h
theorem O7 {p : Prop} (h : p := by
  refine gg (hc _ hh.below) al.out rfl rfl TY ?_;rintro e_ w16 ⟨rfl, hb_⟩;refine ⟨_, rfl, ?_⟩;replace hh := hh.ext hb_;refine aa (cT (sr (mI (aI (aa (au (cd (aG (aG (cd (aG ?_)))))))))));refine cZ ?_;exact ⟨_, rfl, ⟨fun _ => VS.2 ⟨z, T7 hz, gz⟩, fun _ => by omega⟩, hh.below⟩) : p := h
theorem OC {p : Prop} (h : p := by
  rintro e_ w7 ⟨v_, rfl, hv_, hb_⟩;refine ⟨_, rfl, ?_⟩;replace hh := hh.ext hb_
  cases ga : l.any p with
  | true =>
   have h0 := hv_.2 ga;exact DS
  | false =>
   have h0 : ¬ 0 ≤ v_ := fun h => by rw [hv_.1 h] at ga; cases ga
   exact DS) : p := h
theorem Rt {p : Prop} (h : p := by
  unfold ByteArray.toList;have : ∀ (n i : Nat) (r : List UInt8), s.size - i = n → ByteArray.toList.loop s i r = r.reverse ++ s.data.toList.drop i := by
   intro n
   induction n with
   | zero =>
    intro i r h;rw [ByteArray.toList.loop, T3 TX, Vz (by rw [Array.length_toList]; show s.size ≤ i; omega)];simp
   | succ n ih =>
    intro i r h;have hi : i < s.size := TX;rw [ByteArray.toList.loop, T2 hi, ih (i + 1) _ TX];have hi2 : i < s.data.toList.length := by rw [Array.length_toList]; exact hi
    rw [Vj hi2];have : s.get! i = s.data.toList[i] := by
     show s.data[i]! = _;rw [getElem!_pos s.data i (by simpa using hi2)];simp
    simp [this]
  simpa using this (s.size - 0) 0 [] rfl) : p := h
theorem OR {p : Prop} (h : p := by
  have h16 : ¬ 2 ^ 24 < len * sz := TX;have hf' := xG _ _ _ hf;rw [← uw, hzl] at hf';have hzs : zc.toArray.size = sz := by simpa using hzl
  have hp' := Dn parts hp;simp only [execOp, hp', Instr.buildSlice, Sem.run_bind, run_underlying ht, Result.andThen_ok, eS hte, gt_iff_lt, T3 h16, T3 h0, hz, hzc, Sem.run_pure, hzs, hf'];simp [newRow]) : p := h
theorem OX {p : Prop} (h : p := by
  simp only [Fh]
  rcases UP i l.length with hi | hi
  ·rw [Vb, Array.getElem?_append_left (by simpa using hi)];simp [U7]
  ·rw [Vb, Array.getElem?_append_right (by simpa using hi)];simp only [U7, Uy hi, Option.getD_none, Array.getElem?_replicate];split <;> rfl) : p := h
theorem RT {p : Prop} (h : p := by
  refine fp ?_;refine kd 3 TY TZ TY TZ TZ ?_;refine bW hh 3 [_,_] ?_;intro ws hh;replace hh : Hp _ (_ :: _ :: _ :: .blk _ _ [_, _] _ :: _) _ := hh;refine aB (aa (au ?_));refine SS (eO rfl (eN (vs := [_, _]) aK.out (hh.ck (i := 4) (n := 2) rfl rfl) rfl) (eO rfl (eN (vs := [_, _]) aK.out (hh.ck (i := 3) (n := 2) rfl rfl) rfl) (j4 (mw rfl) gm))) ?_;exact ⟨rfl, hh.below⟩) : p := h
theorem Qc {p : Prop} (h : p := by
  refine EU ?_;exact Em) : p := h
theorem Pu {p : Prop} (h : p := by
  rw [hds, We, Vd] at hp;obtain ⟨⟨x, k⟩, hx, hxe⟩ := hp;rw [List.mem_zipIdx_iff_getElem?] at hx
  cases x with
  | none => simp at hxe
  | some d' =>
   simp only [Vx, VQ, Prod.mk.injEq] at hxe;obtain ⟨rfl, rfl⟩ := hxe;rw [Ue] at hx
   cases hr : (List.range m)[k]? with
   | none => rw [hr] at hx; simp at hx
   | some y =>
    have hkm : k < m := by
     have := (Uk.1 hr).1;simpa using this
    rw [UY hkm] at hx;simp only [Vx, VQ] at hx;exact ⟨hkm, hx⟩) : p := h
theorem Kf {p : Prop} (h : p := by
  refine bW hh 1 [_,_] ?_;intro ws hh;replace hh : Hp _ (_ :: .blk _ _ [_, _] _ :: _) _ := hh;refine aa (au ?_);exact Oe) : p := h
theorem Rr {p : Prop} (h : p := by
  exfalso;have hmin : ∀ k, (∃ i, i < k ∧ i < m ∧ L.getD i false = false) → ∃ i, i < m ∧ L.getD i false = false ∧ ∀ j, j < i → L.getD j false = true := by
   intro k
   induction k with
   | zero => rintro ⟨i, h, _⟩; omega
   | succ k ihk =>
    rintro ⟨i, h1, h2, h3⟩;by_cases hex : ∃ i, i < k ∧ i < m ∧ L.getD i false = false
    ·exact ihk hex
    ·exact Nw
  obtain ⟨i0, h1, h2⟩ := hsome;obtain ⟨i, hi, hu, hlow⟩ := hmin (i0 + 1) ⟨i0, TX, h1, h2⟩;exact MW) : p := h
theorem K7 {p : Prop} (h : p := by
  refine aI (aa (sr (mI ?_)));refine dn (aa (cT (sr ?_)));refine gB [_,_] (mI ?_);refine bW hh 0 [_,_] ?_;intro ws hh;replace hh : Hp _ (.blk _ _ [_, _] _ :: _) _ := hh;refine aI (aa (au (aG ?_)));refine Ba ?_;exact ⟨PX.nil, eX.err h0, rfl, (hh.sub (Vh _)).CC⟩) : p := h
theorem PG {p : Prop} (h : p := by
  unfold Region.ready;rw [Vf, UT, hnn];constructor
  ·rintro ⟨h1, h2⟩;have ho : l.toArray[i]? = some l[i] := by simp [h1]
   rw [ho] at h2;simp only [Vx, Vo, Uj, Xl] at h2;refine ⟨h1, h2.1, l[i], ho, fun e he hb => ?_⟩;have := Xg.1 h2.2 e he;simpa [hb] using this
  ·rintro ⟨h1, h2, o, ho, h3⟩;refine ⟨h1, ?_⟩;rw [ho];simp only [Vx, Vo, Uj, Xl];refine ⟨h2, Xg.2 fun e he => ?_⟩
   cases hb : Region.binds .any e with
   | false => simp
   | true => simpa [hb] using h3 e he hb) : p := h
theorem Tb {p : Prop} (h : p := by
  exact NS) : p := h
theorem MG {p : Prop} (h : p := by
  refine bW hh 0 [_,_] ?_;intro ws hh;replace hh : Hp _ (.blk _ _ [_, _] _ :: _) _ := hh;refine aa (au ?_);exact NS) : p := h
theorem Nj {p : Prop} (h : p := by
  refine rv (c := cc) bk.out rfl rfl TX hcc TY ?_;skip;refine AD ?_;refine bj (aI (aa (au ?_)));refine cZ ?_;refine ⟨?_, Below.refl _ _⟩;congr 2;rw [hcv];omega) : p := h
theorem Lq {p : Prop} (h : p := by
  refine bW hh 0 [_,_,_] ?_;intro ws hh;replace hh : Hp _ (.blk _ _ [_, _, _] _ :: _) _ := hh;refine aa (au ?_);exact MN) : p := h
theorem S5 {p : Prop} (h : p := by
  refine oC ?_;refine dS (dS (dS (dU (dU (dU (dU ?_))))));refine z8 (i := 28) rfl (fun ρ1 w1 hj hR => (show ρ1 44 = undef from hR.2.2.1)) ?_;refine dU (dU (dU (dU ?_)));refine aR ?_;intro f W hJ hV _;have hb_8 := hJ.bl;obtain ⟨v53, v52, v51, v50, v49, v48, v47, v46, v45, v44, v43, v42, v41, v40, v39, v38, v37, v36, v35, v34, v33, v32, v31, v30, v29, v28, v27, v26, v25, v24, v23, v22, v21, _⟩ := hV;replace hh := hJ.hp;refine EX ?_;dsimp only [cf];clear hJ;refine gV (gS ?_);refine fL ?_;refine Dh ?_;refine cZ ?_;exact ⟨rfl, hh.below⟩) : p := h
theorem SL {p : Prop} (h : p := by
  intro w40 hh;rw [e9];refine bg (aa (cF (ar (ai (ah ?_)))));refine p7 hh mixed fun w_ hj_ => ?_;replace hh := hj_.hp;clear hj_;refine uo (i := 0) (i2 := 1) TZ rfl rfl ?_ ?_
  ·refine cG hh 1 [_,_] ?_;refine fp ?_;refine uo (i := 1) (i2 := 2) TZ rfl rfl ?_ ?_
   ·refine cG hh 0 [_,_] ?_;exact MT
   ·refine bW hh 3 [_,_] ?_;intro ws hh;replace hh : Hp _ (_ :: _ :: _ :: .blk _ _ [_, _] _ :: _) _ := hh;refine fp ?_;refine fQ (i := 1) TZ rfl ?_;refine cG hh 0 [_,_] ?_;exact Nv
  ·refine cG hh 0 [_,_] ?_;refine fp ?_;refine fQ (i := 0) TZ rfl ?_;refine cG hh 1 [_,_] ?_;exact MT) : p := h
theorem Lm {p : Prop} (h : p := by
  refine gB [_,_] ?_;refine bW hh 0 [_,_] ?_;intro ws hh;replace hh : Hp _ (.blk _ _ [_, _] _ :: _) _ := hh;refine aI (aa (au (aG ?_)));refine Ba ?_;exact ⟨PX.nil, eX.err TY, rfl, (hh.sub (Vh _)).CC⟩) : p := h
theorem Sn {p : Prop} (h : p := by
  rw [hs];refine mI ?_;refine gB [_,_,_,_,_] ?_;refine bV hh ?_;intro b6 w6 hh;refine bW hh 0 [_,_,_,_,_] ?_;intro ws hh;replace hh : Hp _ (.blk _ _ [_, _, _, _, _] _ :: _) _ := hh;refine aa (ah ?_);refine aV 9 [[(6, none)], [(30, some 0)], [(2, none)], [(31, some 1), (32, some 2)], [(6, none)], [(34, some 4)], [(3, none)], [(35, some 5), (36, some 6)], [(6, none)]] [(8, 38), (7, 37), (6, 36), (5, 35), (4, 34), (3, 33), (2, 32), (1, 31), (0, 30)] hh mixed TZ ?_;refine ej ?_;refine fY 0 ?_;refine fU 3 [_,_,_] ?_;refine dC (fun _ hj => hcx _ (hT.hp hj.hp)) ?_;refine ej ?_;refine fY 0 ?_;refine fU 2 [_,_,_] ?_;refine dC (fun _ hj => hcy _ (hT.hp hj.hp)) ?_;refine ej ?_;refine aR ?_;intro f W hJ hV;have hb_8 := hJ.bl;obtain ⟨v38, v37, v36, v35, v34, v33, v32, v31, v30, _⟩ := hV;replace hh := hJ.hp;refine aY (br (ae v38 (ae v37 (ae v36 (ae v35 (ae v34 (ae v33 (ae v32 (ae v31 (ae v30 aX)))))))))) ?_;dsimp only [cf];clear hJ;refine bW hh 0 [_,_] ?_;intro ws hh;replace hh : Hp _ (.blk _ _ [_, _, _, _, _] _ :: _) _ := hh;refine bH ?_;refine bW hh 0 [_,_] ?_;intro ws hh;replace hh : Hp _ (.blk _ _ [_, _, _, _, _] _ :: _) _ := hh;refine aa (sr ?_);refine cG hh 0 [_,_,_,_,_] ?_
  refine bW hh 1 [_,_,_,_,_] ?_;intro ws hh;replace hh : Hp _ (_ :: .blk _ _ [_, _, _, _, _] _ :: _) _ := hh;refine aa (au ?_);refine KT (eO rfl (eN (vs := [_, _, _, _, _]) aK.out (hh.ck (i := 1) (n := 5) rfl rfl) rfl) gm) ?_;exact ⟨rfl, hh.below⟩) : p := h
theorem dQ {p : Prop} (h : p := by
  exact T0) : p := h
section
variable {H : Type} {enc : TypeId × Value → H} {P : Program}
theorem nw (hl : laidOutB P = true) {W W' : World} (hb : Below W.heap.size W W') (sp : Nat → Bool) : ∀ (ts : List TypeId) (vs : List Value) (ds : List (DataW H)) (ps : List MemPlace), (∀ t ∈ ts, P.readableRec t = true ∧ t < P.types.size) →
  (∀ x ∈ ps, x.block < W.heap.size) → (∀ x ∈ ps, sp x.block = true) → DataW.TrodAll enc P W 0 (fun _ => true) true ts vs ds ps → DataW.TrodAll enc P W' 0 sp true ts vs ds ps
 | [], vs, ds, ps, _, _, _, h => by
  obtain ⟨rfl, rfl, rfl⟩ := trodAll_nil h;exact trodAll_mk0
 | t :: ts, vs, ds, ps, hr, hlt, hsp, h => by
  obtain ⟨v, vs', d, ds', p, q, rfl, rfl, rfl, h0, r0⟩ := trodAll_cons h;refine trodAll_cons_mk (WideElems.Trod_stays hl (hr t Uc).1 (hr t Uc).2 h0 (fun x hx => hb.same (hlt x (VT _ hx))) (fun x hx => hsp x (VT _ hx)))
   (nw hl hb sp ts vs' ds' q (fun t ht => hr t (Uf _ ht)) (fun x hx => hlt x (VK _ hx)) (fun x hx => hsp x (VK _ hx)) r0)
theorem Hc {f : Func} {s : ChangeSpec} {W W' : World} {args : Array Value} {ds : List (DataW H)} {before : List MemPlace} {tb : TypeId}
  (hW : DataW.Whole enc P f.params.toList s.vars false W args.toList ds [] before) (hv : s.vars = []) (hl : laidOutB P = true) (hr : ∀ t ∈ f.params.toList, P.readableRec t = true ∧ t < P.types.size)
  (hres : f.resultTypes = #[tb]) (hbool : P.underlying tb = some .bool) (hs1 : (s.fn H (ds ++ [])).results = [.lit (.bool true)]) (hs2 : (s.fn H (ds ++ [])).args = ds) (hs3 : (s.fn H (ds ++ [])).vars = []) (hb : Below W.heap.size W W') :
  s.post enc P f false true false false W args (.bool true) W' := by
 have hlt : ∀ p ∈ before, p.block < W.heap.size := fun p hp => by simpa using hW.lt p hp
 have hold : ∀ p ∈ before, (fun b => decide (b < W.heap.size)) p.block = true := fun p hp => by simpa using hlt p hp
 have hW0 := hW;obtain ⟨pa, pv, hA, hV, hps, hz, hn⟩ := hW0;rw [hv] at hV;obtain ⟨_, rfl⟩ := trodVars_none hV;have hbp : before = pa := by rw [hps, UF]
 subst hbp;have hA' : ∀ sp : Nat → Bool, (∀ p ∈ before, sp p.block = true) → DataW.TrodAll enc P W' 0 sp true f.params.toList args.toList (s.fn H (ds ++ [])).args before := fun sp hsp => by
  rw [hs2];exact nw hl hb sp _ _ _ _ hr hlt hsp hA
 have hV' : ∀ sp : Nat → Bool, DataW.TrodVars enc P W' sp s.vars (s.fn H (ds ++ [])).vars [] := fun sp => by
  rw [hv, hs3]; rfl
 have hR : ∀ (b : Nat) (sp : Nat → Bool) (hd : Bool), DataW.TrodAll enc P W' b sp hd f.resultTypes.toList ((Value.bool true).resultList f.resultTypes.size) (s.fn H (ds ++ [])).results [] := fun b sp hd => by
  rw [hres, hs1];exact trodAll_cons_mk (shut_bool hbool _) trodAll_mk0
 refine ⟨ds, [], before, [], before, [], hW, hR _ _ _, hA' _ hold, hV' _, World.keptBut_mono (fun p hp => ⟨hp, ?_⟩) (hb.frame (· ∈ before)), fun _ => ?_⟩
 ·exact .inr (.inl hp)
 ·refine ⟨ok_one hres rfl (okWide_bool_mk hbool _), _, _, ([] ++ before) ++ [], ⟨[] ++ before, [], trodAll_append (hA' _ (fun _ _ => rfl)) (hR _ _ _), hV' _, rfl, ?_, ?_⟩, ?_⟩
  ·intro b off hp;have hp2 := hz b off (by simpa using hp);rw [hb.frozen (hlt _ (by simpa using hp))];exact hp2
  ·intro ha
   cases ha
  ·intro p hp _;simpa using hp
end
open Go.RowKit
abbrev Rf := Nat → Value
def cI (ρ : Rf) (d : Nat) (v : Value) : Rf := fun i => bif Nat.beq i d then v else ρ i
def ev (ρ : Rf) : Operand → Value
 | .tmp t => ρ t
 | .const v => v
 | .global g => .pointer (some ⟨g, 0, none⟩)
 | .func f => .func (.func f) #[] #[]
structure ew (N : Nat) (D : List Deferred) (a : Act) (ρ : Rf) : Prop where
 nd : a.defers = D
 sz : a.tmps.size = N
 at_ : ∀ i, a.tmps.getD i undef = ρ i
abbrev Fits (N : Nat) (a : Act) (ρ : Rf) : Prop := ew N [] a ρ
theorem ew.eval {N : Nat} {D : List Deferred} {a : Act} {ρ : Rf} (h : ew N D a ρ) : a.eval = ev ρ := by
 funext x
 cases x with
 | tmp t => exact h.at_ t
 | _ => rfl
theorem iF (ρ : Rf) (d : Nat) (v : Value) : cI ρ d v d = v := by simp [cI]
theorem bm (ρ : Rf) {d i : Nat} (h : i ≠ d) (v : Value) : cI ρ d v i = ρ i := by
 have hb : Nat.beq i d = false := by
  cases hb : Nat.beq i d
  ·rfl
  ·exact absurd (Nat.eq_of_beq_eq_true hb) h
 simp only [cI, hb, cond_false]
theorem ew.put {N : Nat} {D : List Deferred} {a : Act} {ρ : Rf} (h : ew N D a ρ) {d : Nat} (hd : d < N) (v : Value) : ew N D (a.put (some d) v) (cI ρ d v) := by
 refine ⟨h.nd, by simp [Act.put, h.sz], fun i => ?_⟩;by_cases hi : i = d
 ·subst hi;rw [iF];simp [Act.put, h.sz, hd]
 ·rw [bm ρ hi, ← h.at_ i];have : d ≠ i := fun e => hi e.symm;simp [Act.put, Array.getElem?_setIfInBounds_ne this]
abbrev Kq := Exit → Rf → World → Prop
def dw (N : Nat) (D : List Deferred) (Q : Kq) : Exit → Act → World → Prop := fun e a w => ∃ ρ, ew N D a ρ ∧ Q e ρ w
abbrev lift (N : Nat) (Q : Kq) : Exit → Act → World → Prop := dw N [] Q
structure Mode where
 round : Option Nat := none
 D : List Deferred := []
 any : Bool := false
abbrev Mode.plain : Mode := {}
def FW (ro : Option Nat) : Fence := { Fence.wide with round := ro }
structure WC (ro : Mode) (P : Program) (N : Nat) (c : Code) (Q : Kq) (ρ : Rf) (w : World) : Prop where
 l7 : ro.any = false → ∀ a, ew N ro.D a ρ → c.wp P (dw N ro.D Q) a w
 jB : ∀ a, ew N ro.D a ρ → ∀ n, c.wpIn (FW ro.round) n P (dw N ro.D Q) a w
structure WL (ro : Mode) (P : Program) (N : Nat) (ops : Array Oper) (Q : Kq) (l : List Oper) (ρ : Rf) (w : World) : Prop where
 l7 : ro.any = false → ∀ a, ew N ro.D a ρ → wpList P ops (dw N ro.D Q) l a w
 jB : ∀ a, ew N ro.D a ρ → ∀ n, wpListIn (FW ro.round) n P ops (dw N ro.D Q) l a w
def cx (next : Rf → World → Prop) (Q : Kq) : Kq
 | .normal, ρ, w => next ρ w
 | e, ρ, w => Q e ρ w
def qH (id : Nat) (Q : Kq) : Kq
 | .exit id', ρ, w => if id' = id then Q .normal ρ w else Q (.exit id') ρ w
 | e, ρ, w => Q e ρ w
section code
variable {ro : Mode} {P : Program} {N : Nat} {Q : Kq} {ρ : Rf} {w : World}
theorem WC.oV {D : List Deferred} {c : Code} (h : ∀ a, ew N D a ρ → c.wp P (dw N D Q) a w) : WC ⟨none, D, false⟩ P N c Q ρ w := ⟨fun _ => h, fun a hf _ => wpIn_wide.2 (h a hf)⟩
theorem WC.out {D : List Deferred} {c : Code} (h : WC ⟨none, D, false⟩ P N c Q ρ w) : ∀ a, ew N D a ρ → c.wp P (dw N D Q) a w := h.l7 rfl
theorem OT {r : Option Nat} {D : List Deferred} {c : Code} (h : WC ⟨r, D, false⟩ P N c Q ρ w) : WC ⟨r, D, true⟩ P N c Q ρ w := ⟨fun h => (by cases h), h.jB⟩
theorem WL.out {D : List Deferred} {ops : Array Oper} {l : List Oper} (h : WL ⟨none, D, false⟩ P N ops Q l ρ w) : ∀ a, ew N D a ρ → wpList P ops (dw N D Q) l a w := h.l7 rfl
theorem vU {D : List Deferred} {Q Q' : Kq} (h : ∀ e ρ w, Q e ρ w → Q' e ρ w) (e : Exit) (a : Act) (w : World) : dw N D Q e a w → dw N D Q' e a w :=
 fun ⟨ρ, hf, hq⟩ => ⟨ρ, hf, h _ _ _ hq⟩
theorem WC.mono {c : Code} {Q' : Kq} (h : WC ro P N c Q ρ w) (hq : ∀ e ρ w, Q e ρ w → Q' e ρ w) : WC ro P N c Q' ρ w :=
 ⟨fun hm a hf => wp_mono (h.l7 hm a hf) (vU hq), fun a hf n => wpIn_mono (h.jB a hf n) (vU hq)⟩
theorem ah {x y : Code} (h : WC ro P N x (cx (fun ρ w => WC ro P N y Q ρ w) Q) ρ w) : WC ro P N (.seq x y) Q ρ w :=
 ⟨fun hm a hf => wp_seq (wp_mono (h.l7 hm a hf) fun e a' w' ⟨ρ', hf', hq⟩ => by
  cases e with
  | normal => exact hq.l7 hm a' hf'
  | _ => exact ⟨ρ', hf', hq⟩),
 fun a hf n => wpIn_seq (wpIn_mono (h.jB a hf n) fun e a' w' ⟨ρ', hf', hq⟩ => by
  cases e with
  | normal => exact hq.jB a' hf' n
  | _ => exact ⟨ρ', hf', hq⟩)⟩
theorem ar (h : Q .normal ρ w) : WC ro P N .skip Q ρ w := ⟨fun _ _ hf => wp_skip ⟨ρ, hf, h⟩, fun _ hf _ => wpIn_skip ⟨ρ, hf, h⟩⟩
theorem au (h : Q .ret ρ w) : WC ro P N .ret Q ρ w := ⟨fun _ _ hf => wp_ret ⟨ρ, hf, h⟩, fun _ hf _ => wpIn_ret ⟨ρ, hf, h⟩⟩
theorem a6 {id : Nat} (h : Q (.exit id) ρ w) : WC ro P N (.exit id) Q ρ w := ⟨fun _ _ hf => wp_exit ⟨ρ, hf, h⟩, fun _ hf _ => wpIn_exit ⟨ρ, hf, h⟩⟩
theorem aq {id : Nat} {c : Code} (h : WC ro P N c (qH id Q) ρ w) : WC ro P N (.block id c) Q ρ w :=
 have key : ∀ (D : List Deferred) e a' w', dw N D (qH id Q) e a' w' → Exit.inBlock id (dw N D Q) e a' w' := fun D e a' w' ⟨ρ', hf', hq⟩ => by
  cases e with
  | exit id' =>
   by_cases hid : id' = id
   ·simp only [qH, hid, if_true] at hq;simp only [Exit.inBlock, hid, if_true];exact ⟨ρ', hf', hq⟩
   ·simp only [qH, hid, if_false] at hq;simp only [Exit.inBlock, hid, if_false];exact ⟨ρ', hf', hq⟩
  | _ => exact ⟨ρ', hf', hq⟩
 ⟨fun hm a hf => wp_block (wp_mono (h.l7 hm a hf) (key _)), fun a hf n => wpIn_block (wpIn_mono (h.jB a hf n) (key _))⟩
theorem Gg {c : Operand} {x y : Code} (hc : ev ρ c = .bool true) (h : WC ro P N x Q ρ w) : WC ro P N (.cond c x y) Q ρ w :=
 ⟨fun hm a hf => wp_cond_true (by rw [hf.eval]; exact hc) (h.l7 hm a hf), fun a hf n => wpIn_cond_true (by rw [hf.eval]; exact hc) (h.jB a hf n)⟩
theorem Gr {c : Operand} {x y : Code} (hc : ev ρ c = .bool false) (h : WC ro P N y Q ρ w) : WC ro P N (.cond c x y) Q ρ w :=
 ⟨fun hm a hf => wp_cond_false (by rw [hf.eval]; exact hc) (h.l7 hm a hf), fun a hf n => wpIn_cond_false (by rw [hf.eval]; exact hc) (h.jB a hf n)⟩
theorem ao {id : Nat} {l : List Oper} (h : WL ro P N l.toArray Q l ρ w) : WC ro P N (.region id l.toArray false) Q ρ w :=
 ⟨fun hm a hf => wp_region_lit (h.l7 hm a hf), fun a hf n => wpIn_region_lit (h.jB a hf n)⟩
theorem ai {next : Rf → World → Prop} (h : next ρ w) : cx next Q .normal ρ w := h
theorem aG {next : Rf → World → Prop} (h : Q .ret ρ w) : cx next Q .ret ρ w := h
theorem aD {next : Rf → World → Prop} {id : Nat} (h : Q (.exit id) ρ w) : cx next Q (.exit id) ρ w := h
theorem bE {id : Nat} (h : Q .normal ρ w) : qH id Q .normal ρ w := h
theorem cd {id : Nat} (h : Q .ret ρ w) : qH id Q .ret ρ w := h
theorem bB {id : Nat} (h : Q .normal ρ w) : qH id Q (.exit id) ρ w := by simpa [qH] using h
def mask (mods : List Nat) (ρ' ρ : Rf) : Rf := fun i => bif mods.contains i then ρ' i else ρ i
def iJ (mods : List Nat) (ρ1 ρ : Rf) : Prop := ∀ i, mods.contains i = false → ρ1 i = ρ i
theorem eL (mods : List Nat) (ρ' ρ : Rf) : iJ mods (mask mods ρ' ρ) ρ := fun i hi => by simp only [mask, hi, cond_false]
theorem fw {mods : List Nat} {ρ1 ρ : Rf} {d : Nat} {v : Value} (hd : mods.contains d = true) (h : iJ mods ρ1 ρ) : iJ mods (cI ρ1 d v) ρ := fun i hi => by
 rw [bm ρ1 (fun e => by rw [e, hd] at hi; cases hi)];exact h i hi
theorem dV {mods mods2 : List Nat} {ρ' ρ1 ρ : Rf} (hm : (mods2.all fun i => mods.contains i) = true) (h : iJ mods ρ1 ρ) : iJ mods (mask mods2 ρ' ρ1) ρ := fun i hi => by
 have h2 : mods2.contains i = false := by
  cases hc : mods2.contains i with
  | false => rfl
  | true =>
   have := Ux.1 hm i (by simpa using hc);rw [this] at hi; cases hi
 simp only [mask, h2, cond_false];exact h i hi
theorem T0 {p : Prop} (h : p := by repeat (first | exact eL _ _ _ | refine fw rfl ?_ | refine dV rfl ?_)) : p := h
theorem T1 {p : Prop} (h : p := by (repeat (first | exact eL _ _ _ | refine fw rfl ?_ | refine dV rfl ?_)); exact fun _ _ => rfl) : p := h
theorem iL {mods : List Nat} {ρ1 ρ : Rf} (h : iJ mods ρ1 ρ) : mask mods ρ1 ρ = ρ1 := by
 funext i;simp only [mask]
 cases hc : mods.contains i with
 | true => rfl
 | false => simpa using (h i hc).symm
theorem gG (ρ : Rf) (d : Nat) : cI ρ d (ρ d) = ρ := by
 funext i;by_cases h : i = d
 ·subst h; rw [iF]
 ·rw [bm ρ h]
theorem xj {c : Code} (I : Rf → World → Prop) (μ : Rf → World → Nat) (h0 : I ρ w)
  (round : ∀ ρ w, I ρ w → WC ro P N c (cx (fun ρ' w' => I ρ' w' ∧ μ ρ' w' < μ ρ w) Q) ρ w) : WC ro P N (.loop c) Q ρ w := by
 refine ⟨fun hm a hf => ?_, fun a hf n => ?_⟩
 ·refine wp_loop (fun a w => ∃ ρ, ew N ro.D a ρ ∧ I ρ w) (fun a w => μ (fun i => a.tmps.getD i undef) w) ⟨ρ, hf, h0⟩ ?_;rintro a w ⟨ρ, hf, hi⟩;refine wp_mono ((round ρ w hi).l7 hm a hf) ?_;exact Rh
 ·refine wpIn_loop (fun a w => ∃ ρ, ew N ro.D a ρ ∧ I ρ w) (fun a w => μ (fun i => a.tmps.getD i undef) w) ⟨ρ, hf, h0⟩ ?_;rintro a w ⟨ρ, hf, hi⟩;refine wpIn_mono ((round ρ w hi).jB a hf n) ?_;exact Rh
theorem aP {c : Code} (mods : List Nat) (s0 : Nat) (I : Value → World → Prop) (μ : Value → World → Nat) (h0 : I (ρ s0) w)
  (round : ∀ ρ' v0 w', I v0 w' → WC ro P N c (cx (fun ρ2 w2 => I (ρ2 s0) w2 ∧ μ (ρ2 s0) w2 < μ v0 w' ∧ iJ mods ρ2 ρ) Q) (cI (mask mods ρ' ρ) s0 v0) w') : WC ro P N (.loop c) Q ρ w :=
 xj (fun ρ1 w1 => I (ρ1 s0) w1 ∧ iJ mods ρ1 ρ) (fun ρ1 w1 => μ (ρ1 s0) w1) ⟨h0, fun _ _ => rfl⟩ fun ρ1 w1 ⟨hi, ha⟩ => by
  have h := round ρ1 (ρ1 s0) w1 hi;rw [iL ha, gG] at h;exact h.mono fun e ρ2 w2 hq => by
   cases e with
   | normal => exact ⟨⟨hq.1, hq.2.2⟩, hq.2.1⟩
   | _ => exact hq
theorem bK {c : Code} (mods : List Nat) (s0 s1 : Nat) (I : Value → Value → World → Prop) (μ : Value → Value → World → Nat) (h0 : I (ρ s0) (ρ s1) w)
  (round : ∀ ρ' v0 v1 w', I v0 v1 w' → WC ro P N c (cx (fun ρ2 w2 => I (ρ2 s0) (ρ2 s1) w2 ∧ μ (ρ2 s0) (ρ2 s1) w2 < μ v0 v1 w' ∧ iJ mods ρ2 ρ) Q) (cI (cI (mask mods ρ' ρ) s0 v0) s1 v1) w') : WC ro P N (.loop c) Q ρ w :=
 xj (fun ρ1 w1 => I (ρ1 s0) (ρ1 s1) w1 ∧ iJ mods ρ1 ρ) (fun ρ1 w1 => μ (ρ1 s0) (ρ1 s1) w1) ⟨h0, fun _ _ => rfl⟩ fun ρ1 w1 ⟨hi, ha⟩ => by
  have h := round ρ1 (ρ1 s0) (ρ1 s1) w1 hi;rw [iL ha, gG, gG] at h;exact h.mono fun e ρ2 w2 hq => by
   cases e with
   | normal => exact ⟨⟨hq.1, hq.2.2⟩, hq.2.1⟩
   | _ => exact hq
theorem y8 {c : Code} (mods : List Nat) (s0 s1 s2 : Nat) (I : Value → Value → Value → World → Prop) (μ : Value → Value → Value → World → Nat) (h0 : I (ρ s0) (ρ s1) (ρ s2) w)
  (round : ∀ ρ' v0 v1 v2 w', I v0 v1 v2 w' → WC ro P N c (cx (fun ρ2 w2 => I (ρ2 s0) (ρ2 s1) (ρ2 s2) w2 ∧ μ (ρ2 s0) (ρ2 s1) (ρ2 s2) w2 < μ v0 v1 v2 w' ∧ iJ mods ρ2 ρ) Q) (cI (cI (cI (mask mods ρ' ρ) s0 v0) s1 v1) s2 v2) w') : WC ro P N (.loop c) Q ρ w :=
 xj (fun ρ1 w1 => I (ρ1 s0) (ρ1 s1) (ρ1 s2) w1 ∧ iJ mods ρ1 ρ) (fun ρ1 w1 => μ (ρ1 s0) (ρ1 s1) (ρ1 s2) w1) ⟨h0, fun _ _ => rfl⟩ fun ρ1 w1 ⟨hi, ha⟩ => by
  have h := round ρ1 (ρ1 s0) (ρ1 s1) (ρ1 s2) w1 hi;rw [iL ha, gG, gG, gG] at h;exact h.mono fun e ρ2 w2 hq => by
   cases e with
   | normal => exact ⟨⟨hq.1, hq.2.2⟩, hq.2.1⟩
   | _ => exact hq
end code
inductive Ix (P : Program) (ρ : Rf) (w : World) : ResultVar → Value → Prop
 | tmp (t : Tmp) {v : Value} (h : ρ t = v) : Ix P ρ w (.tmp t) v
 | cell (p : Tmp) (t : TypeId) {a : Addr} {v : Value} (hp : ρ p = .pointer (some a)) (h : (loadVar t a).run P w = .ok v w) : Ix P ρ w (.cell p t) v
def gN (P : Program) (ρ : Rf) (w : World) : List ResultVar → List Value → Prop
 | [], [] => True
 | r :: rs, v :: vs => Ix P ρ w r v ∧ gN P ρ w rs vs
 | _, _ => False
def vz : List Value → Value
 | [v] => v
 | vs => .tuple vs.toArray
def mv (P : Program) (fn : Func) (R : Ending → World → Prop) : Kq := fun e ρ w =>
 (e = .normal ∨ e = .ret) ∧ ∃ v, (∀ tmps : Array Value, (∀ i, tmps.getD i undef = ρ i) → (results fn tmps).run P w = .ok v w) ∧ R (.returned v) w
theorem DY {P : Program} {ρ : Rf} {w : World} {f : ResultVar → Sem Value} (h1 : ∀ t, (f (.tmp t)).run P w = .ok (ρ t) w)
  (h2 : ∀ p t a v, ρ p = .pointer (some a) → (loadVar t a).run P w = .ok v w → (f (.cell p t)).run P w = .ok v w) : ∀ (rs : List ResultVar) (vs : List Value), gN P ρ w rs vs →
  (rs.mapM f).run P w = .ok vs w
 | [], [], _ => by simp
 | [], _ :: _, h => h.elim
 | _ :: _, [], h => h.elim
 | r :: rs, v :: vs, h => by
  have ih := DY h1 h2 rs vs h.2;obtain ⟨h3, _⟩ := h;rw [List.mapM_cons]
  cases h3 with
  | tmp t hv => rw [Sem.run_bind, h1, Result.andThen_ok, Sem.run_bind, ih, Result.andThen_ok, Sem.run_pure, hv]
  | cell p t hp hl => rw [Sem.run_bind, h2 _ _ _ _ hp hl, Result.andThen_ok, Sem.run_bind, ih, Result.andThen_ok, Sem.run_pure]
theorem ky {P : Program} {fn : Func} {R : Ending → World → Prop} {ρ : Rf} {w : World} {rs : List ResultVar} {vs : List Value} {e : Exit} (he : e = .normal ∨ e = .ret) (hr : fn.results = rs.toArray)
  (hv : gN P ρ w rs vs) (h : R (.returned (vz vs)) w) : mv P fn R e ρ w := by
 refine ⟨he, vz vs, fun tmps ht => ?_, h⟩;unfold results;rw [hr, Sem.run_bind, List.mapM_toArray, Sem.run_map, DY (ρ := ρ) (fun t => by simp [ht]) (fun p t a v hp hl => by simp [ht, hp, asAddr, hl]) rs vs hv];simp only [Result.andThen_ok]
 match vs with
 | [] => simp [vz]
 | [v] => simp [vz]
 | _ :: _ :: _ => simp [vz]
theorem gm {P : Program} {ρ : Rf} {w : World} : gN P ρ w [] [] := trivial
theorem j4 {P : Program} {ρ : Rf} {w : World} {t : Tmp} {v : Value} {rs : List ResultVar} {vs : List Value} (h : ρ t = v) (k : gN P ρ w rs vs) : gN P ρ w (.tmp t :: rs) (v :: vs) := ⟨.tmp t h, k⟩
theorem eO {P : Program} {ρ : Rf} {w : World} {p : Tmp} {t : TypeId} {a : Addr} {v : Value} {rs : List ResultVar} {vs : List Value} (hp : ρ p = .pointer (some a)) (h : (loadVar t a).run P w = .ok v w) (k : gN P ρ w rs vs) : gN P ρ w (.cell p t :: rs) (v :: vs) := ⟨.cell p t hp h, k⟩
theorem Sd {P : Program} {fn : Func} {R : Ending → World → Prop} {ρ : Rf} {w : World} {t : Tmp} {e : Exit} {v : Value} (he : e = .normal ∨ e = .ret) (hr : fn.results = #[.tmp t]) (hv : ρ t = v) (h : R (.returned v) w) : mv P fn R e ρ w :=
 ky he hr (j4 hv gm) h
theorem SJ {P : Program} {fn : Func} {R : Ending → World → Prop} {ρ : Rf} {w : World} {t u : Tmp} {e : Exit} {v x : Value} (he : e = .normal ∨ e = .ret) (hr : fn.results = #[.tmp t, .tmp u]) (hv : ρ t = v) (hx : ρ u = x) (h : R (.returned (.tuple #[v, x])) w) : mv P fn R e ρ w :=
 ky he hr (j4 hv (j4 hx gm)) h
theorem SD {P : Program} {fn : Func} {R : Ending → World → Prop} {ρ : Rf} {w : World} {t u s : Tmp} {e : Exit} {v x y : Value} (he : e = .normal ∨ e = .ret) (hr : fn.results = #[.tmp t, .tmp u, .tmp s]) (hv : ρ t = v) (hx : ρ u = x) (hy : ρ s = y) (h : R (.returned (.tuple #[v, x, y])) w) : mv P fn R e ρ w :=
 ky he hr (j4 hv (j4 hx (j4 hy gm))) h
theorem PQ {P : Program} {fn : Func} {R : Ending → World → Prop} {ρ : Rf} {w : World} {e : Exit} (he : e = .normal ∨ e = .ret) (hr : fn.results = #[]) (h : R (.returned (.tuple #[])) w) : mv P fn R e ρ w :=
 ky he hr gm h
theorem Qv {P : Program} {fn : Func} {R : Ending → World → Prop} {ρ : Rf} {w : World} {r : ResultVar} {e : Exit} {v : Value} (he : e = .normal ∨ e = .ret) (hr : fn.results = #[r]) (h1 : gN P ρ w [r] [v]) (h : R (.returned v) w) : mv P fn R e ρ w :=
 ky he hr h1 h
theorem Q8 {P : Program} {fn : Func} {R : Ending → World → Prop} {ρ : Rf} {w : World} {r s : ResultVar} {e : Exit} {v x : Value} (he : e = .normal ∨ e = .ret) (hr : fn.results = #[r, s]) (h1 : gN P ρ w [r, s] [v, x]) (h : R (.returned (.tuple #[v, x])) w) : mv P fn R e ρ w :=
 ky he hr h1 h
theorem RJ {P : Program} {fn : Func} {R : Ending → World → Prop} {ρ : Rf} {w : World} {r s t : ResultVar} {e : Exit} {v x y : Value} (he : e = .normal ∨ e = .ret) (hr : fn.results = #[r, s, t]) (h1 : gN P ρ w [r, s, t] [v, x, y]) (h : R (.returned (.tuple #[v, x, y])) w) : mv P fn R e ρ w :=
 ky he hr h1 h
def Fh (l : List Value) : Rf := fun i => l.getD i undef
theorem aj {P : Program} {f : FuncId} {fn : Func} {c : Code} {N : Nat} {l : List Value} {w : World} {R : Ending → World → Prop}
  (hf : P.funcs[f]? = some fn) (hb : fn.body = some c) (hn : fn.ntmps = N) (ha : l.length ≤ N)
  (h : WC .plain P N c (mv P fn R) (Fh l) w) : Calls P f l.toArray w R := by
 refine calls_of_wp hf hb ?_;refine wp_mono (h.out _ ⟨rfl, by simp [hn]; omega, fun i => ?_⟩) ?_
 ·exact OX
 ·rintro e a w' ⟨ρ', hf', he, v, hr, hR⟩
  rcases he with rfl | rfl <;> exact ⟨hf'.nd, v, hr _ hf'.at_, hR⟩
section
variable {ro : Mode} {P : Program} {N : Nat} {ops : Array Oper} {Q : Kq} {ρ : Rf} {w : World} {rest : List Oper}
theorem kO {f : Operand → Value} {o : Oper} {x : Next} {w' : World} (ro : Option Nat) (h : (execOp f o).run P w = .ok x w') (hx : ∀ d, x ≠ .defer d) : (o.semAt ro f).run P w = .ok x w' := by
 cases hop : o.op with
 | defer c =>
  exfalso;unfold execOp at h;rw [hop] at h;simp only [Sem.run_bind] at h
  cases h2 : (resolve f c o.type).run P w with
  | ok v w2 =>
   rw [h2] at h;simp at h;exact hx _ h.1.symm
  | halt e w2 =>
   rw [h2] at h;simp [Result.andThen] at h
 | _ => rw [Oper.semAt_eq _ _ _ (by rw [hop]; intro c hc; cases hc)]; exact h
theorem zF {r1 : Option Nat} {n : Nat} {f : FuncId} {args : Array Value} {R : Ending → World → Prop} (h : Calls P f args w R) : CallsIn (FW r1) n P f args w R := (callsIn_wide (n := n)).2 h
theorem aA (h : Q .normal ρ w) : WL ro P N ops Q [] ρ w := ⟨fun _ _ hf => wpList_nil ⟨ρ, hf, h⟩, fun _ hf _ => wpListIn_nil ⟨ρ, hf, h⟩⟩
theorem aa {next : Rf → World → Prop} {Q' : Kq} (h : next ρ w) : WL ro P N ops (cx next Q') [] ρ w := aA h
theorem aQ {o : Oper} {d : Nat} {v : Value} {w' : World} (hg : o.guard = none) (hd : o.dst = some d) (hN : d < N)
  (hr : (execOp (ev ρ) o).run P w = .ok (.value v) w') (k : WL ro P N ops Q rest (cI ρ d v) w') : WL ro P N ops Q (o :: rest) ρ w :=
 ⟨fun hm a hf => wpList_plain hg fun K hK => by
  unfold Oper.wp;rw [hf.eval, hr];show K (a.put o.dst v) w';rw [hd];exact hK _ _ (k.l7 hm _ (hf.put hN v)),
 fun a hf n => wpListIn_plain hg fun K hK => by
  refine ⟨fun _ _ => trivial, ?_⟩;rw [hf.eval, kO _ hr (fun _ h => by cases h)];show K (a.put o.dst v) w';rw [hd];exact hK _ _ (k.jB _ (hf.put hN v) n)⟩
theorem Dr {o : Oper} {w' : World} (hg : o.guard = none) (hd : o.dst = none)
  (hr : (execOp (ev ρ) o).run P w = .ok .skip w') (k : WL ro P N ops Q rest ρ w') : WL ro P N ops Q (o :: rest) ρ w :=
 ⟨fun hm a hf => wpList_plain hg fun K hK => by
  unfold Oper.wp;rw [hf.eval, hr];show K (a.put o.dst undef) w';rw [hd];exact hK _ _ (k.l7 hm _ hf),
 fun a hf n => wpListIn_plain hg fun K hK => by
  refine ⟨fun _ _ => trivial, ?_⟩;rw [hf.eval, kO _ hr (fun _ h => by cases h)];show K (a.put o.dst undef) w';rw [hd];exact hK _ _ (k.jB _ hf n)⟩
theorem zO {o : Oper} {d : Nat} {f : FuncId} {args : Array Value} {w1 : World} {R : Ending → World → Prop} (hg : o.guard = none) (hd : o.dst = some d) (hN : d < N)
  (hr : (execOp (ev ρ) o).run P w = .ok (.enter f args) w1) (hc : Calls P f args w1 R)
  (k : ∀ e w', R e w' → ∃ v, e = .returned v ∧ WL ro P N ops Q rest (cI ρ d v) w') : WL ro P N ops Q (o :: rest) ρ w :=
 ⟨fun hm a hf => wpList_plain hg fun K hK => by
  unfold Oper.wp;rw [hf.eval, hr];show Calls P f args w1 _;refine hc.mono fun e w' hR => ?_;obtain ⟨v, rfl, hk⟩ := k e w' hR;show K (a.put o.dst v) w';rw [hd];exact hK _ _ (hk.l7 hm _ (hf.put hN v)),
 fun a hf n => wpListIn_plain hg fun K hK => by
  refine ⟨fun _ _ => trivial, ?_⟩;rw [hf.eval, kO _ hr (fun _ h => by cases h)];refine ⟨fun h => (by cases h), ?_⟩;refine zF (hc.mono fun e w' hR => ?_);obtain ⟨v, rfl, hk⟩ := k e w' hR;show K (a.put o.dst v) w';rw [hd];exact hK _ _ (hk.jB _ (hf.put hN v) n)⟩
theorem aH {d : Option Nat} {op : Op} {ty : TypeId} {pos : String} {af : Array Edge} {j dj : Nat} {b : Bool}
  (hj : (ops[j]?).bind (·.dst) = some dj) (hv : ρ dj = .bool b) (k : WL ro P N ops Q (⟨d, op, ty, pos, af, none⟩ :: rest) ρ w) :
  WL ro P N ops Q (⟨d, op, ty, pos, af, some (j, b)⟩ :: rest) ρ w :=
 have h0 : ∀ D a, ew N D a ρ → Region.wanted ⟨d, op, ty, pos, af, some (j, b)⟩ (yielded ops a.tmps) = true := fun D a hf => by
  have h2 := hf.at_ dj;rw [hv, Vb] at h2
  cases h3 : a.tmps[dj]? with
  | none => rw [h3] at h2; cases h2
  | some x =>
   rw [h3] at h2;simp only [Vo] at h2;subst h2;simp [Region.wanted, yielded, hj, h3]
 ⟨fun hm a hf => by
  have h2 := k.l7 hm a hf;unfold wpList at h2 ⊢;rw [T2 (h0 _ a hf)];rw [T2 (by simp [Region.wanted])] at h2;exact h2,
 fun a hf n => by
  have h2 := k.jB a hf n;unfold wpListIn at h2 ⊢;rw [T2 (h0 _ a hf)];rw [T2 (by simp [Region.wanted])] at h2;exact h2⟩
theorem kB {d : Nat} {op : Op} {ty : TypeId} {pos : String} {af : Array Edge} {j dj : Nat} {b c : Bool} (hN : d < N)
  (hj : (ops[j]?).bind (·.dst) = some dj) (hv : ρ dj = .bool c) (hb : c ≠ b) (k : WL ro P N ops Q rest (cI ρ d undef) w) :
  WL ro P N ops Q (⟨some d, op, ty, pos, af, some (j, b)⟩ :: rest) ρ w :=
 have h0 : ∀ D a, ew N D a ρ → Region.wanted ⟨some d, op, ty, pos, af, some (j, b)⟩ (yielded ops a.tmps) = false := fun D a hf => by
  have h2 := hf.at_ dj;rw [hv, Vb] at h2
  cases h3 : a.tmps[dj]? with
  | none => rw [h3] at h2; cases h2
  | some x =>
   rw [h3] at h2;simp only [Vo] at h2;subst h2;simp [Region.wanted, yielded, hj, h3, hb]
 ⟨fun hm a hf => by
  unfold wpList;rw [h0 _ a hf];exact k.l7 hm _ (hf.put hN undef),
 fun a hf n => by
  unfold wpListIn;rw [h0 _ a hf];exact ⟨fun _ _ => trivial, k.jB _ (hf.put hN undef) n⟩⟩
def nb (v : Value) (b : Bool) : Bool := match v with | .bool c => c != b | _ => true
theorem tM {d : Nat} {op : Op} {ty : TypeId} {pos : String} {af : Array Edge} {j dj : Nat} {b : Bool} (hN : d < N)
  (hj : (ops[j]?).bind (·.dst) = some dj) (hb : nb (ρ dj) b = true) (k : WL ro P N ops Q rest (cI ρ d undef) w) :
  WL ro P N ops Q (⟨some d, op, ty, pos, af, some (j, b)⟩ :: rest) ρ w := by
 cases hv : ρ dj with
 | bool c =>
  rw [hv] at hb;exact kB hN hj hv (by simpa [nb] using hb) k
 | _ =>
  have h0 : ∀ D a, ew N D a ρ → Region.wanted ⟨some d, op, ty, pos, af, some (j, b)⟩ (yielded ops a.tmps) = false := fun D a hf => by
   have h2 := hf.at_ dj;rw [hv, Vb] at h2
   cases h3 : a.tmps[dj]? with
   | none => simp [Region.wanted, yielded, hj, h3]
   | some x =>
    rw [h3] at h2;simp only [Vo] at h2;subst h2;simp [Region.wanted, yielded, hj, h3]
  refine ⟨fun hm a hf => ?_, fun a hf n => ?_⟩
  ·unfold wpList;rw [h0 _ a hf];exact k.l7 hm _ (hf.put hN undef)
  ·unfold wpListIn;rw [h0 _ a hf];exact ⟨fun _ _ => trivial, k.jB _ (hf.put hN undef) n⟩
end
section
variable {P : Program} {ρ : Rf} {w : World} {d : Option Nat} {ty : TypeId} {pos : String} {af : Array Edge} {g : Option (Nat × Bool)}
theorem eH {x : Operand} {v : Value} (hx : ev ρ x = v) : (execOp (ev ρ) ⟨d, .move x, ty, pos, af, g⟩).run P w = .ok (.value v) w := by simp [execOp, hx]
theorem Jc {x : Operand} {v : Value} (hx : ev ρ x = v) : (execOp (ev ρ) ⟨d, .assign x, ty, pos, af, g⟩).run P w = .ok (.value v) w := by simp [execOp, hx]
theorem Bq {c a b : Operand} {v : Value} (hc : ev ρ c = .bool true) (hx : ev ρ a = v) : (execOp (ev ρ) ⟨d, .pick c a b, ty, pos, af, g⟩).run P w = .ok (.value v) w := by simp [execOp, asBool, hc, hx]
theorem zv {c a b : Operand} {v : Value} (hc : ev ρ c = .bool false) (hx : ev ρ b = v) : (execOp (ev ρ) ⟨d, .pick c a b, ty, pos, af, g⟩).run P w = .ok (.value v) w := by simp [execOp, asBool, hc, hx]
section ints
variable {t u : TypeId} {x y : Operand} {k : IntKind} {a b : Int}
theorem Og (hx : ev ρ x = .int k a) (hy : ev ρ y = .int k b) : (execOp (ev ρ) ⟨d, .binOp .add t x y u, ty, pos, af, g⟩).run P w = .ok (.value (.int k (k.wrap (a + b)))) w := by
 simp [execOp, hx, hy, eqGuard, binOp, Op.intArith]
theorem MQ (hx : ev ρ x = .int k a) (hy : ev ρ y = .int k b) : (execOp (ev ρ) ⟨d, .binOp .sub t x y u, ty, pos, af, g⟩).run P w = .ok (.value (.int k (k.wrap (a - b)))) w := by
 simp [execOp, hx, hy, eqGuard, binOp, Op.intArith]
theorem MR (hx : ev ρ x = .int k a) (hy : ev ρ y = .int k b) : (execOp (ev ρ) ⟨d, .binOp .mul t x y u, ty, pos, af, g⟩).run P w = .ok (.value (.int k (k.wrap (a * b)))) w := by
 simp [execOp, hx, hy, eqGuard, binOp, Op.intArith]
theorem Om (hx : ev ρ x = .int k a) (hy : ev ρ y = .int k b) (hb : b ≠ 0) : (execOp (ev ρ) ⟨d, .binOp .quo t x y u, ty, pos, af, g⟩).run P w = .ok (.value (.int k (k.wrap (a.tdiv b)))) w := by
 simp [execOp, hx, hy, eqGuard, binOp, Op.intDiv, hb]
theorem M1 (hx : ev ρ x = .int k a) (hy : ev ρ y = .int k b) (hb : b ≠ 0) : (execOp (ev ρ) ⟨d, .binOp .rem t x y u, ty, pos, af, g⟩).run P w = .ok (.value (.int k (a.tmod b))) w := by
 simp [execOp, hx, hy, eqGuard, binOp, Op.intDiv, hb]
theorem NI (hx : ev ρ x = .int k a) (hy : ev ρ y = .int k b) : (execOp (ev ρ) ⟨d, .binOp .and t x y u, ty, pos, af, g⟩).run P w = .ok (.value (.int k (k.wrap (BitVec.ofInt k.bits a &&& BitVec.ofInt k.bits b).toNat))) w := by
 simp [execOp, hx, hy, eqGuard, binOp, Op.intBits]
theorem Sk (hx : ev ρ x = .int k a) (hy : ev ρ y = .int k b) : (execOp (ev ρ) ⟨d, .binOp .or t x y u, ty, pos, af, g⟩).run P w = .ok (.value (.int k (k.wrap (BitVec.ofInt k.bits a ||| BitVec.ofInt k.bits b).toNat))) w := by
 simp [execOp, hx, hy, eqGuard, binOp, Op.intBits]
theorem Q4 {k' : IntKind} (hx : ev ρ x = .int k a) (hy : ev ρ y = .int k' b) (hb : 0 ≤ b) : (execOp (ev ρ) ⟨d, .binOp .shl t x y u, ty, pos, af, g⟩).run P w = .ok (.value (.int k (k.wrap (a * 2 ^ (min b.toNat k.bits))))) w := by
 simp [execOp, hx, hy, eqGuard, binOp, Op.shift, show ¬ b < 0 by omega]
theorem RP {k' : IntKind} (hx : ev ρ x = .int k a) (hy : ev ρ y = .int k' b) (hb : 0 ≤ b) : (execOp (ev ρ) ⟨d, .binOp .shr t x y u, ty, pos, af, g⟩).run P w = .ok (.value (.int k (a.fdiv (2 ^ (min b.toNat k.bits))))) w := by
 simp [execOp, hx, hy, eqGuard, binOp, Op.shift, show ¬ b < 0 by omega]
theorem AN {op : BinOp} : (eqGuard op t x y (.int k a) (.int k b)).run P w = .ok () w := by
 unfold eqGuard; cases op <;> simp
theorem mG {op : BinOp} {r : Bool} (hx : ev ρ x = .int k a) (hy : ev ρ y = .int k b) (hop : (Op.intCmp op a b).run P w = .ok (.bool r) w) (hc : op = .eql ∨ op = .neq ∨ op = .lss ∨ op = .leq ∨ op = .gtr ∨ op = .geq) :
  (execOp (ev ρ) ⟨d, .binOp op t x y u, ty, pos, af, g⟩).run P w = .ok (.value (.bool r)) w := by
 rcases hc with h | h | h | h | h | h <;> subst h <;> simp [execOp, hx, hy, AN, binOp, hop]
theorem LQ (hx : ev ρ x = .int k a) (hy : ev ρ y = .int k b) (h : a < b) : (execOp (ev ρ) ⟨d, .binOp .lss t x y u, ty, pos, af, g⟩).run P w = .ok (.value (.bool true)) w :=
 mG hx hy (by simp [Op.intCmp, h]) (by simp)
theorem LS (hx : ev ρ x = .int k a) (hy : ev ρ y = .int k b) (h : ¬ a < b) : (execOp (ev ρ) ⟨d, .binOp .lss t x y u, ty, pos, af, g⟩).run P w = .ok (.value (.bool false)) w :=
 mG hx hy (by simp [Op.intCmp]; omega) (by simp)
theorem Mt (hx : ev ρ x = .int k a) (hy : ev ρ y = .int k b) (h : a ≤ b) : (execOp (ev ρ) ⟨d, .binOp .leq t x y u, ty, pos, af, g⟩).run P w = .ok (.value (.bool true)) w :=
 mG hx hy (by simp [Op.intCmp, h]) (by simp)
theorem L3 (hx : ev ρ x = .int k a) (hy : ev ρ y = .int k b) (h : ¬ a ≤ b) : (execOp (ev ρ) ⟨d, .binOp .leq t x y u, ty, pos, af, g⟩).run P w = .ok (.value (.bool false)) w :=
 mG hx hy (by simp [Op.intCmp]; omega) (by simp)
theorem Ml (hx : ev ρ x = .int k a) (hy : ev ρ y = .int k b) (h : b < a) : (execOp (ev ρ) ⟨d, .binOp .gtr t x y u, ty, pos, af, g⟩).run P w = .ok (.value (.bool true)) w :=
 mG hx hy (by simp [Op.intCmp, h]) (by simp)
theorem LK (hx : ev ρ x = .int k a) (hy : ev ρ y = .int k b) (h : ¬ b < a) : (execOp (ev ρ) ⟨d, .binOp .gtr t x y u, ty, pos, af, g⟩).run P w = .ok (.value (.bool false)) w :=
 mG hx hy (by simp [Op.intCmp]; omega) (by simp)
theorem Mv (hx : ev ρ x = .int k a) (hy : ev ρ y = .int k b) (h : b ≤ a) : (execOp (ev ρ) ⟨d, .binOp .geq t x y u, ty, pos, af, g⟩).run P w = .ok (.value (.bool true)) w :=
 mG hx hy (by simp [Op.intCmp, h]) (by simp)
theorem MA (hx : ev ρ x = .int k a) (hy : ev ρ y = .int k b) (h : ¬ b ≤ a) : (execOp (ev ρ) ⟨d, .binOp .geq t x y u, ty, pos, af, g⟩).run P w = .ok (.value (.bool false)) w :=
 mG hx hy (by simp [Op.intCmp]; omega) (by simp)
theorem KQ (hx : ev ρ x = .int k a) (hy : ev ρ y = .int k b) (h : a ≠ b) : (execOp (ev ρ) ⟨d, .binOp .neq t x y u, ty, pos, af, g⟩).run P w = .ok (.value (.bool true)) w :=
 mG hx hy (by simp [Op.intCmp, h]) (by simp)
theorem Ll (hx : ev ρ x = .int k a) (hy : ev ρ y = .int k b) (h : a = b) : (execOp (ev ρ) ⟨d, .binOp .neq t x y u, ty, pos, af, g⟩).run P w = .ok (.value (.bool false)) w :=
 mG hx hy (by simp [Op.intCmp, h]) (by simp)
theorem E7 (hx : ev ρ x = .int k a) (hy : ev ρ y = .int k b) : (execOp (ev ρ) ⟨d, .binOp .eql t x y u, ty, pos, af, g⟩).run P w = .ok (.value (.bool (decide (a = b)))) w :=
 mG hx hy (by simp [Op.intCmp]; rw [Bool.eq_iff_iff]; simp) (by simp)
theorem NA (hx : ev ρ x = .int k a) : (execOp (ev ρ) ⟨d, .unOp .neg t x, ty, pos, af, g⟩).run P w = .ok (.value (.int k (k.wrap (-a)))) w := by
 simp [execOp, hx, Op.unary, Op.intArith]
theorem j3 {n : Int} (h1 : -9223372036854775808 ≤ n) (h2 : n ≤ 9223372036854775807) : IntKind.i64.wrap n = n := IntWalk.i64_in n ⟨h1, h2⟩
theorem Hs (hx : ev ρ x = .int .i64 a) (hy : ev ρ y = .int .i64 b) (h1 : -9223372036854775808 ≤ a + b) (h2 : a + b ≤ 9223372036854775807) : (execOp (ev ρ) ⟨d, .binOp .add t x y u, ty, pos, af, g⟩).run P w = .ok (.value (.int .i64 (a + b))) w := by
 rw [Og hx hy, j3 h1 h2]
theorem JI (hx : ev ρ x = .int .i64 a) (hy : ev ρ y = .int .i64 b) (h1 : -9223372036854775808 ≤ a - b) (h2 : a - b ≤ 9223372036854775807) : (execOp (ev ρ) ⟨d, .binOp .sub t x y u, ty, pos, af, g⟩).run P w = .ok (.value (.int .i64 (a - b))) w := by
 rw [MQ hx hy, j3 h1 h2]
theorem G4 (hx : ev ρ x = .int .i64 a) (hy : ev ρ y = .int .i64 b) (h1 : -9223372036854775808 ≤ a * b) (h2 : a * b ≤ 9223372036854775807) : (execOp (ev ρ) ⟨d, .binOp .mul t x y u, ty, pos, af, g⟩).run P w = .ok (.value (.int .i64 (a * b))) w := by
 rw [MR hx hy, j3 h1 h2]
theorem J9 (hx : ev ρ x = .int .i64 a) (h1 : -9223372036854775808 ≤ -a) (h2 : -a ≤ 9223372036854775807) : (execOp (ev ρ) ⟨d, .unOp .neg t x, ty, pos, af, g⟩).run P w = .ok (.value (.int .i64 (-a))) w := by
 rw [NA hx, j3 h1 h2]
theorem qo (hx : ev ρ x = .int .i64 a) (hy : ev ρ y = .int .i64 b) (ha : 0 ≤ a) (hb : 0 < b) (h2 : a ≤ 9223372036854775807) : (execOp (ev ρ) ⟨d, .binOp .quo t x y u, ty, pos, af, g⟩).run P w = .ok (.value (.int .i64 (a / b))) w := by
 have h3 : a / b ≤ a := Int.ediv_le_self b ha;have h4 : 0 ≤ a / b := Int.ediv_nonneg ha TX;rw [Om hx hy TX, Int.tdiv_eq_ediv_of_nonneg ha, j3 TX TX]
theorem n9 (hx : ev ρ x = .int .i64 a) (hy : ev ρ y = .int .i64 b) (ha : 0 ≤ a) (hb : 0 < b) : (execOp (ev ρ) ⟨d, .binOp .rem t x y u, ty, pos, af, g⟩).run P w = .ok (.value (.int .i64 (a % b))) w := by
 rw [M1 hx hy TX, Int.tmod_eq_emod_of_nonneg ha]
end ints
theorem M7 {t : TypeId} {x : Operand} {b : Bool} (hx : ev ρ x = .bool b) : (execOp (ev ρ) ⟨d, .unOp .not t x, ty, pos, af, g⟩).run P w = .ok (.value (.bool !b)) w := by
 simp [execOp, hx, Op.unary]
section bools
variable {t u : TypeId} {x y : Operand} {a b : Bool}
theorem yC (n : Nat) (ht : P.underlying t = some .bool) : (Op.equalIn (n + 1) t (.bool a) (.bool b)).run P w = .ok (a == b) w := by
 simp [Op.equalIn, run_underlying ht]
theorem tj (ht : P.underlying t = some .bool) : (Op.equal t (.bool a) (.bool b)).run P w = .ok (a == b) w := yC 9999 ht
theorem te (ht : P.underlying t = some .bool) : (binOp .eql t (.bool a) (.bool b)).run P w = .ok (.bool (a == b)) w := by
 simp only [binOp];simp [tj ht]
theorem sI (ht : P.underlying t = some .bool) : (binOp .neq t (.bool a) (.bool b)).run P w = .ok (.bool (a != b)) w := by
 simp only [binOp];simp [tj ht, bne]
theorem tE (ht : P.underlying t = some .bool) (hx : ev ρ x = .bool a) (hy : ev ρ y = .bool b) : (execOp (ev ρ) ⟨d, .binOp .eql t x y u, ty, pos, af, g⟩).run P w = .ok (.value (.bool (a == b))) w := by
 simp only [execOp, hx, hy, eqGuard];simp [te ht]
theorem nM (ht : P.underlying t = some .bool) (hx : ev ρ x = .bool a) (hy : ev ρ y = .bool b) : (execOp (ev ρ) ⟨d, .binOp .neq t x y u, ty, pos, af, g⟩).run P w = .ok (.value (.bool (a != b))) w := by
 simp only [execOp, hx, hy, eqGuard];simp [sI ht]
end bools
section lP
variable {t u : TypeId} {x y : Operand} {a b : ByteArray}
theorem Ay {op : BinOp} : (eqGuard op t x y (.string a) (.string b)).run P w = .ok () w := by
 unfold eqGuard; cases op <;> simp
theorem yJ {op : BinOp} {r : Value} (hx : ev ρ x = .string a) (hy : ev ρ y = .string b) (hs : op ≠ .shl ∧ op ≠ .shr) (hop : (Op.stringOp op a b).run P w = .ok r w) :
  (execOp (ev ρ) ⟨d, .binOp op t x y u, ty, pos, af, g⟩).run P w = .ok (.value r) w := by
 cases op <;> simp_all [execOp, Ay, binOp]
theorem vZ (hx : ev ρ x = .string a) (hy : ev ρ y = .string b) : (execOp (ev ρ) ⟨d, .binOp .eql t x y u, ty, pos, af, g⟩).run P w = .ok (.value (.bool (a.toList == b.toList))) w :=
 yJ hx hy (by simp) (by simp [Op.stringOp])
theorem wj (hx : ev ρ x = .string a) (hy : ev ρ y = .string b) : (execOp (ev ρ) ⟨d, .binOp .neq t x y u, ty, pos, af, g⟩).run P w = .ok (.value (.bool !(a.toList == b.toList))) w :=
 yJ hx hy (by simp) (by simp [Op.stringOp])
theorem HB {a b : ByteArray} : (a.toList == b.toList) = decide (a = b) := by
 have key : ∀ s : ByteArray, s.toList = s.data.toList := fun s => by
  exact Rt
 rw [Bool.eq_iff_iff, VI, Up, key, key];constructor
 ·intro h; cases a; cases b; congr 1; exact Array.ext' h
 ·intro h; rw [h]
theorem zG (hx : ev ρ x = .string a) (hy : ev ρ y = .string b) (h : a = b) : (execOp (ev ρ) ⟨d, .binOp .eql t x y u, ty, pos, af, g⟩).run P w = .ok (.value (.bool true)) w := by
 rw [vZ hx hy, HB]; simp [h]
theorem yW (hx : ev ρ x = .string a) (hy : ev ρ y = .string b) (h : ¬ a = b) : (execOp (ev ρ) ⟨d, .binOp .eql t x y u, ty, pos, af, g⟩).run P w = .ok (.value (.bool false)) w := by
 rw [vZ hx hy, HB]; simp [h]
theorem yR (hx : ev ρ x = .string a) (hy : ev ρ y = .string b) (h : ¬ a = b) : (execOp (ev ρ) ⟨d, .binOp .neq t x y u, ty, pos, af, g⟩).run P w = .ok (.value (.bool true)) w := by
 rw [wj hx hy, HB]; simp [h]
theorem Bn (hx : ev ρ x = .string a) (hy : ev ρ y = .string b) (h : a = b) : (execOp (ev ρ) ⟨d, .binOp .neq t x y u, ty, pos, af, g⟩).run P w = .ok (.value (.bool false)) w := by
 rw [wj hx hy, HB]; simp [h]
theorem F1 (hx : ev ρ x = .string a) (hy : ev ρ y = .string b) : (execOp (ev ρ) ⟨d, .binOp .lss t x y u, ty, pos, af, g⟩).run P w = .ok (.value (.bool (Op.bytesLess a.toList b.toList))) w :=
 yJ hx hy (by simp) (by simp [Op.stringOp])
theorem Ga (hx : ev ρ x = .string a) (hy : ev ρ y = .string b) : (execOp (ev ρ) ⟨d, .binOp .gtr t x y u, ty, pos, af, g⟩).run P w = .ok (.value (.bool !(Op.bytesLess a.toList b.toList || a.toList == b.toList))) w :=
 yJ hx hy (by simp) (by simp [Op.stringOp])
theorem GD (hx : ev ρ x = .string a) (hy : ev ρ y = .string b) : (execOp (ev ρ) ⟨d, .binOp .geq t x y u, ty, pos, af, g⟩).run P w = .ok (.value (.bool !(Op.bytesLess a.toList b.toList))) w :=
 yJ hx hy (by simp) (by simp [Op.stringOp])
end lP
theorem lF {s t : TypeId} {x : Operand} {k k' : IntKind} {a : Int} {sd : TypeDesc} (hs : P.underlying s = some sd) (ht : P.underlying t = some (.int k)) (hx : ev ρ x = .int k' a) :
  (execOp (ev ρ) ⟨d, .convert s t x, ty, pos, af, g⟩).run P w = .ok (.value (.int k (k.wrap a))) w := by
 simp [execOp, hx, convert, run_underlying hs, run_underlying ht, Conv.intToInt]
theorem CZ {s t : TypeId} {x : Operand} {k' : IntKind} {a : Int} {sd : TypeDesc} (hs : P.underlying s = some sd) (ht : P.underlying t = some (.int .i64)) (hx : ev ρ x = .int k' a) (h1 : -9223372036854775808 ≤ a) (h2 : a ≤ 9223372036854775807) :
  (execOp (ev ρ) ⟨d, .convert s t x, ty, pos, af, g⟩).run P w = .ok (.value (.int .i64 a)) w := by
 rw [lF hs ht hx, j3 h1 h2]
theorem fB {x : Operand} {i : Nat} {vs : List Value} {v : Value} (hx : ev ρ x = .tuple vs.toArray) (hv : vs[i]? = some v) :
  (execOp (ev ρ) ⟨d, .extract x i, ty, pos, af, g⟩).run P w = .ok (.value v) w := by
 simp [execOp, hx, Instr.extract, hv]
def vC (ρ : Rf) : List Operand → List Value
 | [] => []
 | x :: l => ev ρ x :: vC ρ l
theorem mW {ρ : Rf} (args : Array Operand) {vs : List Value} (h : vC ρ args.toList = vs) : args.map (ev ρ) = vs.toArray := by
 have h1 : ∀ l : List Operand, l.map (ev ρ) = vC ρ l := by
  intro l
  induction l with
  | nil => rfl
  | cons a l ih => simp only [Ut, ih]; rfl
 subst h;rw [← h1];apply Array.ext';simp
theorem C9 {fn : Fn} {first captured : Array Operand} {fs cs : List Value} (hf : vC ρ first.toList = fs) (hc : vC ρ captured.toList = cs) :
  (execOp (ev ρ) ⟨d, .makeFunc fn first captured, ty, pos, af, g⟩).run P w = .ok (.value (.func fn fs.toArray cs.toArray)) w := by
 simp [execOp, mW _ hf, mW _ hc, Instr.makeFunc]
theorem la {i : Nat} {k : IntKind} {n : Int} (h : ρ i = .int k n) : ρ i = .int k n := h
theorem mw {i : Nat} {b : Bool} (h : ρ i = .bool b) : ρ i = .bool b := h
theorem vJ {i : Nat} {s : ByteArray} (h : ρ i = .string s) : ρ i = .string s := h
theorem Ft {i : Nat} {A : Option Addr} {n c : Nat} (h : ρ i = .slice A n c) : ρ i = .slice A n c := h
theorem cJ {x : Operand} {k : IntKind} {n : Int} (h : ev ρ x = .int k n) : ev ρ x = .int k n := h
theorem rV {x : Operand} {b : Bool} (h : ev ρ x = .bool b) : ev ρ x = .bool b := h
theorem BG {x : Operand} {s : ByteArray} (h : ev ρ x = .string s) : ev ρ x = .string s := h
theorem DA {x : Operand} {A : Option Addr} {n c : Nat} (h : ev ρ x = .slice A n c) : ev ρ x = .slice A n c := h
theorem Cc {x : Operand} {a : Addr} (h : ev ρ x = .pointer (some a)) : ev ρ x = .pointer (some a) := h
theorem gO {x : Operand} {l : List Value} (h : ev ρ x = .agg l.toArray) : ev ρ x = .agg l.toArray := h
theorem Ps {x : Operand} {l : List Value} (h : ev ρ x = .tuple l.toArray) : ev ρ x = .tuple l.toArray := h
theorem rX {x : Operand} {f : Fn} {a b : List Value} (h : ev ρ x = .func f a.toArray b.toArray) : ev ρ x = .func f a.toArray b.toArray := h
theorem sg {x : Operand} (h : ev ρ x = .nilFunc) : ev ρ x = .nilFunc := h
theorem Gj {x : Operand} {t : TypeId} {s : ByteArray} (ht : P.underlying t = some .string) (hx : ev ρ x = .string s) :
  (execOp (ev ρ) ⟨d, .call ⟨.builtin .len, #[x], #[t]⟩, ty, pos, af, g⟩).run P w = .ok (.value (.int .i64 s.size)) w := by
 simp [execOp, resolve, invoke, builtin, Builtin.len_, hx, run_underlying ht, goInt]
theorem Bk {x : Operand} {t e : TypeId} {A : Option Addr} {n c : Nat} (ht : P.underlying t = some (.slice e)) (hx : ev ρ x = .slice A n c) :
  (execOp (ev ρ) ⟨d, .call ⟨.builtin .len, #[x], #[t]⟩, ty, pos, af, g⟩).run P w = .ok (.value (.int .i64 n)) w := by
 simp [execOp, resolve, invoke, builtin, Builtin.len_, hx, run_underlying ht, goInt]
theorem Rl {x y : Operand} {ts : Array TypeId} {k : IntKind} {a b : Int} (hx : ev ρ x = .int k a) (hy : ev ρ y = .int k b) :
  (execOp (ev ρ) ⟨d, .call ⟨.builtin .min, #[x, y], ts⟩, ty, pos, af, g⟩).run P w = .ok (.value (.int k (if b < a then b else a))) w := by
 simp [execOp, resolve, invoke, builtin, Builtin.min_, Builtin.min2, hx, hy, List.foldlM]
theorem NF {x y : Operand} {ts : Array TypeId} {k : IntKind} {a b : Int} (hx : ev ρ x = .int k a) (hy : ev ρ y = .int k b) :
  (execOp (ev ρ) ⟨d, .call ⟨.builtin .max, #[x, y], ts⟩, ty, pos, af, g⟩).run P w = .ok (.value (.int k (if b > a then b else a))) w := by
 simp [execOp, resolve, invoke, builtin, Builtin.max_, Builtin.max2, hx, hy, List.foldlM]
theorem rH {t : TypeId} {x i : Operand} {s : ByteArray} {n : Int} {k : IntKind} {c : UInt8} (ht : P.underlying t = some .string) (hx : ev ρ x = .string s) (hi : ev ρ i = .int k n)
  (h0 : 0 ≤ n) (hc : s.data.toList[n.toNat]? = some c) : (execOp (ev ρ) ⟨d, .index t x i, ty, pos, af, g⟩).run P w = .ok (.value (.int .u8 c.toNat)) w := by
 have hs : s[n.toNat]? = some c := by
  rw [← hc];obtain ⟨h1, h2⟩ := Uk.1 hc;have h3 : n.toNat < s.size := by simpa using h1
  rw [getElem?_pos s n.toNat h3, getElem?_pos s.data.toList n.toNat h1]
  rfl
 simp [execOp, hx, hi, Instr.index, asIntOf, run_underlying ht, h0, hs]
theorem AV {t : TypeId} {x : Operand} {lo hi : Option Operand} {s : ByteArray} {l h : Nat} (ht : P.underlying t = some .string) (hx : ev ρ x = .string s)
  (hlo : match lo with | none => l = 0 | some o => ∃ (k : IntKind) (n : Int), ev ρ o = .int k n ∧ n = l) (hhi : match hi with | none => h = s.size | some o => ∃ (k : IntKind) (n : Int), ev ρ o = .int k n ∧ n = h)
  (h1 : l ≤ h) (h2 : h ≤ s.size) : (execOp (ev ρ) ⟨d, .slice t x lo hi none, ty, pos, af, g⟩).run P w = .ok (.value (.string (s.extract l h))) w := by
 have e1 : (l : Int) ≤ h := TX;have e2 : (h : Int) ≤ s.size := TX
 cases lo <;> cases hi <;> simp only [] at hlo hhi
 ·subst hlo; subst hhi;simp [execOp, hx, Instr.sliceAt, Instr.slice, run_underlying ht, Instr.sliceBounds]
 ·obtain ⟨k2, n2, hv2, rfl⟩ := hhi;subst hlo;simp [execOp, hx, Instr.sliceAt, Instr.slice, run_underlying ht, Instr.sliceBounds, Instr.sliceBound, asIntOf, hv2, h2]
 ·obtain ⟨k2, n2, hv2, rfl⟩ := hlo;subst hhi;simp [execOp, hx, Instr.sliceAt, Instr.slice, run_underlying ht, Instr.sliceBounds, Instr.sliceBound, asIntOf, hv2, h1]
 ·obtain ⟨k2, n2, hv2, rfl⟩ := hhi;obtain ⟨k3, n3, hv3, rfl⟩ := hlo;simp [execOp, hx, Instr.sliceAt, Instr.slice, run_underlying ht, Instr.sliceBounds, Instr.sliceBound, asIntOf, hv2, hv3, h1, h2]
theorem iZ {t e : TypeId} {x : Operand} {lo hi : Option Operand} {A : Option Addr} {n c l h sz : Nat} (ht : P.underlying t = some (.slice e)) (hsz : (P.info? e).map (·.size) = some sz) (hx : ev ρ x = .slice A n c)
  (hlo : match lo with | none => l = 0 | some o => ∃ (k : IntKind) (n : Int), ev ρ o = .int k n ∧ n = l) (hhi : match hi with | none => h = n | some o => ∃ (k : IntKind) (n : Int), ev ρ o = .int k n ∧ n = h)
  (h1 : l ≤ h) (h2 : h ≤ c) : (execOp (ev ρ) ⟨d, .slice t x lo hi none, ty, pos, af, g⟩).run P w = .ok (.value (.slice (if c = l then A else A.map (·.add (l * sz))) (h - l) (c - l))) w := by
 obtain ⟨i, hi1, hi2⟩ := VJ.1 hsz;have e1 : (l : Int) ≤ h := TX;have e2 : (h : Int) ≤ c := TX
 cases lo <;> cases hi <;> simp only [] at hlo hhi
 ·subst hlo; subst hhi;simp [execOp, hx, Instr.sliceAt, Instr.slice, run_underlying ht, Instr.sliceBounds, sizeOf, typeInfo, hi1]
 ·obtain ⟨k2, n2, hv2, rfl⟩ := hhi;subst hlo;simp [execOp, hx, Instr.sliceAt, Instr.slice, run_underlying ht, Instr.sliceBounds, Instr.sliceBound, asIntOf, hv2, h2, sizeOf, typeInfo, hi1]
 ·obtain ⟨k2, n2, hv2, rfl⟩ := hlo;subst hhi;simp [execOp, hx, Instr.sliceAt, Instr.slice, run_underlying ht, Instr.sliceBounds, Instr.sliceBound, asIntOf, hv2, h1, sizeOf, typeInfo, hi1, hi2]
 ·obtain ⟨k2, n2, hv2, rfl⟩ := hhi;obtain ⟨k3, n3, hv3, rfl⟩ := hlo;simp [execOp, hx, Instr.sliceAt, Instr.slice, run_underlying ht, Instr.sliceBounds, Instr.sliceBound, asIntOf, hv2, hv3, h1, h2, sizeOf, typeInfo, hi1, hi2]
theorem dA {t e : TypeId} {x i : Operand} {ad : Addr} {n c sz : Nat} {k : IntKind} {m : Int} (ht : P.underlying t = some (.slice e)) (hsz : (P.info? e).map (·.size) = some sz) (hx : ev ρ x = .slice (some ad) n c) (hi : ev ρ i = .int k m)
  (h0 : 0 ≤ m) (h1 : m < n) : (execOp (ev ρ) ⟨d, .indexAddr t x i, ty, pos, af, g⟩).run P w = .ok (.value (.pointer (some (ad.add (m.toNat * sz))))) w := by
 obtain ⟨i, hi1, hi2⟩ := VJ.1 hsz;simp [execOp, hx, hi, Instr.indexAt, asIntOf, run_underlying ht, sizeOf, typeInfo, hi1, hi2, h0, h1]
theorem nP {t e : TypeId} {x i : Operand} {b n c sz k : Nat} {kk : IntKind} {m : Int} (ht : P.underlying t = some (.slice e)) (hsz : (P.info? e).map (·.size) = some sz) (hx : ev ρ x = .slice (some ⟨b, 0, none⟩) n c) (hi : ev ρ i = .int kk m)
  (hm : m = (k : Int)) (h1 : k < n) : (execOp (ev ρ) ⟨d, .indexAddr t x i, ty, pos, af, g⟩).run P w = .ok (.value (.pointer (some ⟨b, k * sz, none⟩))) w := by
 have h := dA (P := P) (w := w) (d := d) (ty := ty) (pos := pos) (af := af) (g := g) ht hsz hx hi TX TX;rw [h, hm];have : (⟨b, 0, none⟩ : Addr).add (((k : Int)).toNat * sz) = ⟨b, k * sz, none⟩ := by
  unfold Addr.add;split
  ·rename_i h0;rw [Vp] at h0;rw [h0]
  ·rw [Vp]; simp
 rw [this]
theorem IM {x : Operand} {args : Array Operand} {ts : Array TypeId} {f : FuncId} {fn : Func} {first cap : Array Value} {vs : Array Value} (hf : P.funcs[f]? = some fn) (hb : fn.body.isNone = false) (hn : (fn.name == "runtime.NumGoroutine") = false)
  (hx : ev ρ x = .func (.func f) first cap) (ha : args.map (ev ρ) = vs) : (execOp (ev ρ) ⟨d, .call ⟨.value x, args, ts⟩, ty, pos, af, g⟩).run P w = .ok (.enter f (first ++ vs ++ cap)) w := by
 have h1 : ¬ fn.name = "runtime.NumGoroutine" := by simpa using hn
 have h2 : ¬ fn.body = none := by intro h; simp [h] at hb
 simp [execOp, resolve, Deferred.ofValue, hx, ha, invoke, callFunc, program, Sem.run, hf, h1, h2]
end
def dq (P : Program) (t : TypeId) : Option (Nat × Bool × Nat × List Value) :=
 match P.info? t, P.underlying t with
 | some i, some d => i.zero.map fun z => (i.size, (match d with | .struct _ | .array _ _ => true | _ => false), i.bytes, z.cells.toList)
 | _, _ => none
theorem eG {P : Program} {t : TypeId} {n by' : Nat} {ag : Bool} {zc : List Value} (h : dq P t = some (n, ag, by', zc)) :
  ∃ i z d, P.info? t = some i ∧ P.underlying t = some d ∧ i.zero = some z ∧ i.size = n ∧ i.bytes = by' ∧ z.cells = zc.toArray ∧ (match d with | .struct _ | .array _ _ => true | _ => false) = ag := by
 unfold dq at h;split at h
 ·rename_i i d hi hd;obtain ⟨z, hz, he⟩ := VJ.1 h;simp only [Prod.mk.injEq] at he;exact ⟨i, z, d, hi, hd, hz, he.1, he.2.2.1, by rw [← he.2.2.2], he.2.1⟩
 ·cases h
section
variable {P : Program} {w : World} {t : TypeId} {n by' : Nat} {ag : Bool} {zc : List Value}
theorem eS (h : dq P t = some (n, ag, by', zc)) : (sizeOf t).run P w = .ok n w := by
 obtain ⟨i, z, d, hi, hd, hz, hs, _⟩ := eG h;simp [sizeOf, typeInfo, hi, hs]
theorem iX (h : dq P t = some (n, ag, by', zc)) : (isAgg t).run P w = .ok ag w := by
 obtain ⟨i, z, d, hi, hd, hz, hs, _, _, ha⟩ := eG h;simp only [isAgg, Sem.run_bind, run_underlying hd, Result.andThen_ok];subst ha
 cases d <;> rfl
theorem dz (h : dq P t = some (n, ag, by', zc)) : ∃ z, (zeroValue t).run P w = .ok z w ∧ z.cells = zc.toArray := by
 obtain ⟨i, z, d, hi, hd, hz, hs, _, hc, _⟩ := eG h;exact ⟨z, by simp [zeroValue, typeInfo, hi, hz], hc⟩
end
def Rd (w : World) (ad : Addr) (vs : List Value) : Prop := ∀ j u, vs[j]? = some u → w.cell? (ad.add j) = some u
def Sl (w : World) (A : Option Addr) (n k : Nat) (xs : List Value) : Prop := xs.length = n * k ∧ (0 < n → ∃ ad, A = some ad ∧ Rd w ad xs)
theorem fu (b o n : Nat) : (⟨b, o, none⟩ : Addr).add n = ⟨b, o + n, none⟩ := by
 unfold Addr.add;split
 ·rename_i h; subst h; rfl
 ·rfl
theorem lU (a : Addr) (i j : Nat) : (a.add i).add j = a.add (i + j) := by
 unfold Addr.add;by_cases hi : i = 0 <;> by_cases hj : j = 0 <;> simp [hi, hj, WU]
theorem lv {w : World} {a : Addr} {v : Value} (h : w.cell? a = some v) : a.block < w.heap.size := block_lt_of_cell h
theorem cH {w w' : World} (h : Below w.heap.size w w') {a : Addr} {v : Value} (hc : w.cell? a = some v) : w'.cell? a = some v := (h.cell (lv hc)).trans hc
theorem Rd.ext {w w' : World} {ad : Addr} {vs : List Value} (h : Rd w ad vs) (hb : Below w.heap.size w w') : Rd w' ad vs := fun j u hu => cH hb (h j u hu)
theorem Sl.ext {w w' : World} {A : Option Addr} {n k : Nat} {xs : List Value} (h : Sl w A n k xs) (hb : Below w.heap.size w w') : Sl w' A n k xs :=
 ⟨h.1, fun hn => let ⟨ad, ha, hr⟩ := h.2 hn; ⟨ad, ha, hr.ext hb⟩⟩
theorem Rd.drop {w : World} {ad : Addr} {vs : List Value} (h : Rd w ad vs) (i : Nat) : Rd w (ad.add i) (vs.drop i) := fun j u hu => by
 rw [lU];exact h _ u (by rw [← hu, VD])
theorem Rd.take {w : World} {ad : Addr} {vs : List Value} (h : Rd w ad vs) (n : Nat) : Rd w ad (vs.take n) := fun j u hu => by
 rw [VG] at hu;split at hu
 ·exact h _ u hu
 ·cases hu
theorem Rd.cell {w : World} {ad : Addr} {vs : List Value} (h : Rd w ad vs) {i : Nat} {v : Value} (hv : vs[i]? = some v) : w.cell? (ad.add i) = some v := h i v hv
theorem Sl.nil (w : World) (A : Option Addr) (k : Nat) : Sl w A 0 k [] := ⟨by simp, fun h => absurd h TX⟩
theorem Sl.at_ {w : World} {A : Option Addr} {n k : Nat} {xs : List Value} (h : Sl w A n k xs) (hn : 0 < n) : ∃ ad, A = some ad ∧ Rd w ad xs := h.2 hn
theorem Rd.elem {w : World} {ad : Addr} {xs : List Value} (h : Rd w ad xs) (i k : Nat) : Rd w (ad.add (i * k)) ((xs.drop (i * k)).take k) := (h.drop _).take _
theorem Sl.cut {w : World} {A : Option Addr} {n k c l m : Nat} {xs : List Value} (h : Sl w A n k xs) (hl : l ≤ m) (hm : m ≤ n) (hc : n ≤ c) :
  Sl w (if c = l then A else A.map (·.add (l * k))) (m - l) k ((xs.drop (l * k)).take ((m - l) * k)) := by
 have hle : l * k + (m - l) * k ≤ n * k := by
  rw [← VV];exact U2 _ TX
 refine ⟨by rw [Us, Vn, h.1]; omega, fun hn => ?_⟩;obtain ⟨ad, rfl, hr⟩ := h.2 TX;rw [T3 TX];exact ⟨_, rfl, (hr.drop _).take _⟩
inductive HE where
 | blk (b : Nat) (t : TypeId) (cs : List Value) (fz : Nat × Nat)
 | row (A : Option Addr) (n c : Nat) (t : TypeId) (sz : Nat) (xs : List Value)
 | ob (b : Nat) (o : Obj)
abbrev HE.it (b : Nat) (s : ByteArray) (pos : Nat) : HE := .ob b (.stringIter s pos)
def HE.id : HE → Option Nat
 | .blk b _ _ _ => some b
 | .row A _ _ _ _ _ => A.map (·.block)
 | .ob b _ => some b
def HE.holds (base : Nat) (w : World) : HE → Prop
 | .blk b t cs fz => base ≤ b ∧ w.heap[b]? = some (.cells cs.toArray t fz) ∧ (cs.length ≤ fz.1 ∨ fz.2 ≤ fz.1)
 | .row A n c t sz xs => w.ownsRow base t sz (.slice A n c) n xs
 | .ob b o => base ≤ b ∧ w.heap[b]? = some o
structure Hp (w0 : World) (H : List HE) (w : World) : Prop where
 below : Below w0.heap.size w0 w
 own : ∀ x ∈ H, x.holds w0.heap.size w
 nd : (H.filterMap HE.id).Nodup
section
variable {w0 w w' : World} {H : List HE}
theorem Hp.start (w : World) : Hp w [] w := ⟨Below.refl _ _, fun _ h => (nomatch h), List.nodup_nil⟩
theorem Hp.size (h : Hp w0 H w) : w0.heap.size ≤ w.heap.size := h.below.size
theorem dK {base : Nat} {x : HE} (h : x.holds base w) {b : Nat} (hb : x.id = some b) : base ≤ b ∧ b < w.heap.size := by
 cases x with
 | blk b' t cs fz =>
  obtain rfl : b' = b := by simpa [HE.id] using hb
  refine ⟨h.1, ?_⟩
  rcases UP b' w.heap.size with hlt | hge
  ·exact hlt
  ·have := h.2.1; rw [WT hge] at this; cases this
 | row A n c t sz xs =>
  cases A with
  | none => simp [HE.id] at hb
  | some a => exact World.ownsRow.lt h b (by simpa [HE.id, Value.ownBlock] using hb)
 | ob b' o =>
  obtain rfl : b' = b := by simpa [HE.id] using hb
  refine ⟨h.1, ?_⟩
  rcases UP b' w.heap.size with hlt | hge
  ·exact hlt
  ·have := h.2; rw [WT hge] at this; cases this
theorem od {base : Nat} {x : HE} (h : x.holds base w) (hk : ∀ b, x.id = some b → w'.heap[b]? = w.heap[b]?) : x.holds base w' := by
 cases x with
 | blk b t cs fz => exact ⟨h.1, (hk b rfl).trans h.2.1, h.2.2⟩
 | row A n c t sz xs =>
  obtain ⟨h1, h2⟩ := h;refine ⟨h1, ?_⟩
  rcases h2 with h2 | ⟨g, cap, cur, hv, hg, hh, r⟩
  ·exact .inl h2
  ·have hA : A = some ⟨g, 0, none⟩ := by injection hv
   subst hA;exact .inr ⟨g, cap, cur, hv, hg, (hk g rfl).trans hh, r⟩
 | ob b o => exact ⟨h.1, (hk b rfl).trans h.2⟩
theorem Hp.ext (h : Hp w0 H w) (hb : Below w.heap.size w w') : Hp w0 H w' :=
 ⟨h.below.trans (hb.mono h.size), fun x hx => od (h.own x hx) fun _ hi => hb.block _ (dK (h.own x hx) hi).2, h.nd⟩
theorem Hp.sub (h : Hp w0 H w) {H' : List HE} (hs : H'.Sublist H) : Hp w0 H' w := ⟨h.below, fun x hx => h.own x (hs.subset hx), h.nd.sublist (hs.filterMap _)⟩
theorem Hp.at_ (h : Hp w0 H w) {i : Nat} {x : HE} (hi : H[i]? = some x) : x.holds w0.heap.size w := h.own x (T7 hi)
theorem Hp.aW (h : Hp w0 H w) (hb : Below w.heap.size w w') {x : HE} (hx : x.holds w.heap.size w') : Hp w0 (x :: H) w' := by
 have h' := h.ext hb;refine ⟨h'.below, ?_, ?_⟩
 ·intro y hy
  rcases Ul.1 hy with rfl | hy
  ·cases y with
   | blk b t cs fz => exact ⟨Ur h.size hx.1, hx.2⟩
   | row A n c t sz xs =>
    obtain ⟨h1, h2⟩ := hx;exact ⟨h1, h2.imp id fun ⟨g, cap, cur, hv, hg, r⟩ => ⟨g, cap, cur, hv, Ur h.size hg, r⟩⟩
   | ob b o => exact ⟨Ur h.size hx.1, hx.2⟩
  ·exact h'.own y hy
 ·rw [VR];split
  ·exact h'.nd
  ·rename_i b hb';refine V2.2 ⟨fun hm => ?_, h'.nd⟩;obtain ⟨y, hy, hyb⟩ := Vd.1 hm;have h1 := (dK hx hb').1;have h2 := (dK (h.own y hy) hyb).2;omega
theorem Hp.KS (h : Hp w0 H w) {i : Nat} {x y : HE} (hi : H[i]? = some x) (hid : ∀ b, y.id = some b → x.id = some b ∨ w.heap.size ≤ b)
  (hb : Below w0.heap.size w0 w') (hk : ∀ b, b < w.heap.size → x.id ≠ some b → w'.heap[b]? = w.heap[b]?) (hy : y.holds w0.heap.size w') : Hp w0 (H.set i y) w' := by
 obtain ⟨hlt, hx⟩ := Uk.1 hi;have hsplit : H = H.take i ++ x :: H.drop (i + 1) := by
  rw [← hx, ← Vj hlt, UZ]
 have hset : H.set i y = H.take i ++ y :: H.drop (i + 1) := by rw [Xh, T2 hlt]
 have hnd := h.nd;rw [hsplit, Ws] at hnd;have hother : ∀ z, z ∈ H.take i ∨ z ∈ H.drop (i + 1) → z ∈ H ∧ (∀ b, z.id = some b → x.id ≠ some b) := by
  intro z hz;refine ⟨hz.elim Wa Xa, fun b hzb hxb => ?_⟩;rw [VR, hxb] at hnd;simp only [] at hnd;rw [WK] at hnd
  rcases hz with hz | hz
  ·exact hnd.2.2 b (Vd.2 ⟨z, hz, hzb⟩) b (Uc) rfl
  ·exact (V2.1 hnd.2.1).1 (Vd.2 ⟨z, hz, hzb⟩)
 have hold : ∀ z, z ∈ H.take i ∨ z ∈ H.drop (i + 1) → z.holds w0.heap.size w' := fun z hz => by
  obtain ⟨hm, hne⟩ := hother z hz;exact od (h.own z hm) fun b hzb => hk b (dK (h.own z hm) hzb).2 (hne b hzb)
 rw [hset];refine ⟨hb, ?_, ?_⟩
 ·intro z hz
  rcases UD.1 hz with hz | hz
  ·exact hold z (.inl hz)
  ·rcases Ul.1 hz with rfl | hz
   ·exact hy
   ·exact hold z (.inr hz)
 ·rw [Ws];have hsub : ((H.take i).filterMap HE.id ++ (H.drop (i + 1)).filterMap HE.id).Nodup := by
   refine hnd.sublist (List.Sublist.append (Vi _) ?_);exact List.Sublist.filterMap _ (UM _ _)
  rw [VR];split
  ·exact hsub
  ·rename_i b hyb;have hfresh : ∀ z, z ∈ H.take i ∨ z ∈ H.drop (i + 1) → z.id ≠ some b := fun z hz hzb => by
    obtain ⟨hm, hne⟩ := hother z hz
    rcases hid b hyb with h1 | h1
    ·exact hne b hzb h1
    ·have := (dK (h.own z hm) hzb).2; omega
   rw [WK] at hsub ⊢;refine ⟨hsub.1, V2.2 ⟨fun hm => ?_, hsub.2.1⟩, fun u hu v hv => ?_⟩
   ·obtain ⟨z, hz, hzb⟩ := Vd.1 hm;exact hfresh z (.inr hz) hzb
   ·rcases Ul.1 hv with rfl | hv
    ·rintro rfl;obtain ⟨z, hz, hzb⟩ := Vd.1 hu;exact hfresh z (.inl hz) hzb
    ·exact hsub.2.2 u hu v hv
end
section
variable {w0 w w' : World} {H : List HE}
theorem Hp.Ks (h : Hp w0 H w) {i b : Nat} {t : TypeId} {cs : List Value} {fz : Nat × Nat} (hi : H[i]? = some (.blk b t cs fz)) : Rd w ⟨b, 0, none⟩ cs := fun j u hu => by
 have h1 := (h.at_ hi).2.1;rw [fu, Uv, cell_of_row w b j _ t fz h1];simpa using hu
theorem Hp.dZ (h : Hp w0 H w) {i b o : Nat} {t : TypeId} {cs : List Value} {fz : Nat × Nat} {v : Value} (hi : H[i]? = some (.blk b t cs fz)) (hv : cs[o]? = some v) : w.cell? ⟨b, o, none⟩ = some v := by
 have := h.Ks hi o v hv;rwa [fu, Uv] at this
theorem Hp.ck (h : Hp w0 H w) {i b o n : Nat} {t : TypeId} {cs vs : List Value} {fz : Nat × Nat} (hi : H[i]? = some (.blk b t cs fz)) (hv : (cs.drop o).take n = vs) : Rd w ⟨b, o, none⟩ vs := by
 have := ((h.Ks hi).drop o).take n;rwa [fu, Uv, hv] at this
theorem lI {base : Nat} {t : TypeId} {A : Option Addr} {n c sz : Nat} {xs : List Value} (h : w.ownsRow base t sz (.slice A n c) n xs) : Sl w A n sz xs := by
 refine ⟨h.1, fun hn => ?_⟩;obtain ⟨g, cap, hv, _, hlt⟩ := h.form hn;have hA : A = some ⟨g, 0, none⟩ := by injection hv
 subst hA;exact ⟨_, rfl, h.cells (g := g) rfl⟩
theorem Hp.cB (h : Hp w0 H w) {i n c sz : Nat} {A : Option Addr} {t : TypeId} {xs : List Value} (hi : H[i]? = some (.row A n c t sz xs)) (hn : 0 < n) : ∃ g, A = some ⟨g, 0, none⟩ := by
 obtain ⟨g, cap, hv, _⟩ := World.ownsRow.form (h.at_ hi) hn;injection hv with hA
 exact ⟨g, hA⟩
theorem Hp.fh (h : Hp w0 H w) {i b n c sz o : Nat} {t : TypeId} {xs : List Value} {v : Value} (hi : H[i]? = some (.row (some ⟨b, 0, none⟩) n c t sz xs)) (hv : xs[o]? = some v) : w.cell? ⟨b, o, none⟩ = some v := by
 have := World.ownsRow.cells (h.at_ hi) (g := b) rfl o v hv;rwa [fu, Uv] at this
theorem Hp.Mr (h : Hp w0 H w) {i n c sz : Nat} {A : Option Addr} {t : TypeId} {xs : List Value} (hi : H[i]? = some (.row A n c t sz xs)) : xs.length = n * sz := (h.at_ hi).1
theorem Hp.aC (h : Hp w0 H w) {i n c sz : Nat} {A : Option Addr} {t : TypeId} {xs : List Value} (hi : H[i]? = some (.row A n c t sz xs)) : Sl w A n sz xs := lI (h.at_ hi)
end
section
variable {P : Program} {ρ : Rf} {w : World} {d : Option Nat} {ty : TypeId} {pos : String} {af : Array Edge} {g : Option (Nat × Bool)}
theorem Cl {t : TypeId} {x : Operand} {ad : Addr} {n by' : Nat} {zc vs : List Value} (ht : dq P t = some (n, true, by', zc)) (hx : ev ρ x = .pointer (some ad)) (hr : Rd w ad vs) (hl : vs.length = n) :
  (execOp (ev ρ) ⟨d, .load t x, ty, pos, af, g⟩).run P w = .ok (.value (.agg vs.toArray)) w := by
 subst hl;simp [execOp, hx, Instr.loadAt, Instr.sureAddr, loadVar, iX ht, eS ht, run_loadCells_list (P := P) w ad vs hr]
theorem jb {t : TypeId} {x : Operand} {ad : Addr} {n by' : Nat} {zc : List Value} {v : Value} (ht : dq P t = some (n, false, by', zc)) (hx : ev ρ x = .pointer (some ad)) (hc : w.cell? ad = some v) :
  (execOp (ev ρ) ⟨d, .load t x, ty, pos, af, g⟩).run P w = .ok (.value v) w := by
 simp [execOp, hx, Instr.loadAt, Instr.sureAddr, loadVar, iX ht, run_load, hc]
theorem eN {t : TypeId} {ad : Addr} {n by' : Nat} {zc vs : List Value} (ht : dq P t = some (n, true, by', zc)) (hr : Rd w ad vs) (hl : vs.length = n) :
  (loadVar t ad).run P w = .ok (.agg vs.toArray) w := by
 subst hl;simp [loadVar, iX ht, eS ht, run_loadCells_list (P := P) w ad vs hr]
def gH (P : Program) (s : TypeId) (i : Nat) : Option (Nat × TypeId) :=
 match P.underlying s with
 | some (.struct fs) => match fs[i]? with
  | some f => if P.cellsOf f.type = 0 then none else some (f.offset, f.type)
  | none => none
 | _ => none
theorem rp {s : TypeId} {x : Operand} {f b o off : Nat} {ft : TypeId} (hf : gH P s f = some (off, ft)) (hx : ev ρ x = .pointer (some ⟨b, o, none⟩)) :
  (execOp (ev ρ) ⟨d, .fieldAddr s x f, ty, pos, af, g⟩).run P w = .ok (.value (.pointer (some ⟨b, o + off, none⟩))) w := by
 unfold gH at hf;split at hf
 ·rename_i fs hs;split at hf
  ·rename_i fd hfd;split at hf
   ·cases hf
   ·rename_i hc;simp only [VQ, Prod.mk.injEq] at hf;obtain ⟨rfl, rfl⟩ := hf;have hsz : ∃ i, P.info? fd.type = some i ∧ i.size ≠ 0 := by
     exact RC
    obtain ⟨i, hi, hi0⟩ := hsz;simp [execOp, hx, Instr.fieldAt, run_underlying hs, hfd, Instr.sureAddr, fieldPlace, sizeOf, typeInfo, hi, hi0, fu]
  ·cases hf
 ·cases hf
theorem pR {s : TypeId} {x : Operand} {f off : Nat} {ad : Addr} {ft : TypeId} (hf : gH P s f = some (off, ft)) (hx : ev ρ x = .pointer (some ad)) :
  (execOp (ev ρ) ⟨d, .fieldAddr s x f, ty, pos, af, g⟩).run P w = .ok (.value (.pointer (some (ad.add off)))) w := by
 unfold gH at hf;split at hf
 ·rename_i fs hs;split at hf
  ·rename_i fd hfd;split at hf
   ·cases hf
   ·rename_i hc;simp only [VQ, Prod.mk.injEq] at hf;obtain ⟨rfl, rfl⟩ := hf;have hsz : ∃ i, P.info? fd.type = some i ∧ i.size ≠ 0 := by
     exact RC
    obtain ⟨i, hi, hi0⟩ := hsz;simp [execOp, hx, Instr.fieldAt, run_underlying hs, hfd, Instr.sureAddr, fieldPlace, sizeOf, typeInfo, hi, hi0]
  ·cases hf
 ·cases hf
theorem KO {s : TypeId} {x : Operand} {f off n by' : Nat} {ft : TypeId} {cs vs : Array Value} {zc : List Value} (hf : gH P s f = some (off, ft)) (ht : dq P ft = some (n, true, by', zc)) (hx : ev ρ x = .agg cs) (hv : cs.extract off (off + n) = vs) :
  (execOp (ev ρ) ⟨d, .field s x f, ty, pos, af, g⟩).run P w = .ok (.value (.agg vs)) w := by
 unfold gH at hf;split at hf
 ·rename_i fs hs;split at hf
  ·rename_i fd hfd;split at hf
   ·cases hf
   ·simp only [VQ, Prod.mk.injEq] at hf;obtain ⟨rfl, rfl⟩ := hf;simp [execOp, hx, Instr.field, run_underlying hs, hfd, asAgg, part, iX ht, eS ht, hv]
  ·cases hf
 ·cases hf
end
section
variable {ro : Mode}
def cq (cs : List Value) (o : Nat) (vs : List Value) : List Value := cs.take o ++ vs ++ cs.drop (o + vs.length)
theorem fy {cs vs : List Value} {o : Nat} (h : o + vs.length ≤ cs.length) : (cq cs o vs).length = cs.length := by
 simp only [cq, Ua, Us, Vn]; omega
theorem uW (cs : List Value) (o : Nat) : cq cs o [] = cs := by simp [cq]
theorem qY {cs vs : List Value} {o : Nat} {v : Value} (h : o + (v :: vs).length ≤ cs.length) : cq cs o (v :: vs) = cq (cs.set o v) (o + 1) vs := by
 simp only [Uq] at h;have h0 : cs.set o v = cs.take o ++ v :: cs.drop (o + 1) := by rw [Xh, T2 TX]
 have h2 : (cs.take o).length = o := by simp; omega
 have h1 : (cs.set o v).take (o + 1) = cs.take o ++ [v] := by
  rw [h0, List.take_append, h2, T9 TX];simp
 have h3 : (cs.set o v).drop (o + 1 + vs.length) = cs.drop (o + 1 + vs.length) := List.drop_set_of_lt TX;unfold cq;rw [h1, h3];simp [WU, VU 1]
theorem u1 {a b c : World} {r : Option Nat} (h : a.grownBy b r) (k : b.grownBy c r) : a.grownBy c r :=
 ⟨k.os.trans h.os, k.tape.trans h.tape, k.output.trans h.output, Ur h.size k.size, fun i hi hne => (k.block i (U6 hi h.size) hne).trans (h.block i hi hne)⟩
theorem Ax (w : World) (b o : Nat) (v : Value) : w.grownBy (w.setCell ⟨b, o, none⟩ v) (some b) :=
 ⟨rfl, rfl, rfl, by simp [World.setCell], fun k _ hne => Below.heap_setCell w _ v k (fun e => hne (by rw [e]))⟩
section
variable {P : Program}
theorem gE {b : Nat} {t : TypeId} {fz : Nat × Nat} (o : Nat) : ∀ (vs : List Value) (i : Nat) (cs : List Value) (w : World), w.heap[b]? = some (.cells cs.toArray t fz) → (cs.length ≤ fz.1 ∨ fz.2 ≤ fz.1) →
  o + i + vs.length ≤ cs.length → (∀ v ∈ vs, v.oneCell' = true) →
  ∃ w', (storeCells ⟨b, o, none⟩ vs i).run P w = .ok () w' ∧ w'.heap[b]? = some (.cells (cq cs (o + i) vs).toArray t fz) ∧ w.grownBy w' (some b) ∧ w'.heap.size = w.heap.size
 | [], i, cs, w, hw, _, _, _ => ⟨w, by simp [storeCells], by rw [uW]; exact hw, World.grownBy.refl _ _, rfl⟩
 | v :: vs, i, cs, w, hw, hf, hl, h1 => by
  simp only [Uq] at hl;have hoi : o + i < cs.length := TX;have hc : w.cell? ⟨b, o + i, none⟩ = some cs[o + i] := by
   rw [cell_of_row w b (o + i) _ t fz hw];simp [Vq hoi]
  have hfr : w.frozen? ⟨b, o + i, none⟩ = false := by
   simp only [World.frozen?, hw]
   rcases hf with hf | hf <;> simp <;> omega
  have hw2 : (w.setCell ⟨b, o + i, none⟩ v).heap[b]? = some (.cells (cs.set (o + i) v).toArray t fz) := by
   simp [World.setCell, Array.getElem?_modify, hw]
  obtain ⟨w', hr, hb', hg, hs⟩ := gE (b := b) (t := t) (fz := fz) o vs (i + 1) (cs.set (o + i) v) _ hw2 (by simpa using hf) (by simp; omega) (fun u hu => h1 u (Uf _ hu));refine ⟨w', ?_, ?_, u1 (Ax w b (o + i) v) hg, hs.trans (by simp [World.setCell])⟩
  ·simp only [storeCells, Sem.run_bind, fu, run_store P w ⟨b, o + i, none⟩ v .plain (h1 v (Uc)), hc, hfr];simpa using hr
  ·rw [qY (by simp; omega)];exact hb'
end
def kr (pl : Nat → Option (Nat × Nat)) : List Value → List (Nat × Value) → Option (List Value)
 | cs, [] => some cs
 | cs, (i, v) :: r =>
  match pl i with
  | none => none
  | some (off, size) => if v.cells.toList.length ≠ size ∨ cs.length < off + v.cells.toList.length then none else kr pl (cq cs off v.cells.toList) r
theorem pf : ∀ (vs : List Value) (k o : Nat) (cs : List Value), o + k + vs.length ≤ cs.length →
  (vs.zipIdx k).foldl (fun (cs : Array Value) (x : Value × Nat) => cs.setIfInBounds (o + x.2) x.1) cs.toArray = (cq cs (o + k) vs).toArray
 | [], k, o, cs, _ => by simp [uW]
 | v :: vs, k, o, cs, h => by
  rw [List.zipIdx_cons, Xo];simp only [List.setIfInBounds_toArray];rw [pf vs (k + 1) o (cs.set (o + k) v) (by simp at h ⊢; omega), qY (by simp at h ⊢; omega)]
  rfl
theorem xG {pl : Nat → Option (Nat × Nat)} : ∀ (ps : List (Nat × Value)) (zs cs : List Value), kr pl zs ps = some cs → Instr.fill pl zs.toArray ps = some cs.toArray
 | [], zs, cs, h => by simp only [kr, VQ] at h; subst h; rfl
 | (i, v) :: r, zs, cs, h => by
  unfold kr at h;unfold Instr.fill;split at h
  ·cases h
  ·rename_i off size hpl;split at h
   ·cases h
   ·rename_i hc;simp only [ne_eq, not_or, Decidable.not_not, Nat.not_lt] at hc;simp only [hpl];have h1 : ¬ ((v.cells.size ≠ size || decide (off + v.cells.size > zs.toArray.size)) = true) := by
     have e : v.cells.size = v.cells.toList.length := by simp
     simp only [e, hc.1, WJ, Wd, Up, ne_eq, not_true, decide_false, Xc, false_or];omega
    rw [T3 h1];have h2 : v.cells.zipIdx.foldl (fun (cs : Array Value) (x : Value × Nat) => cs.setIfInBounds (off + x.2) x.1) zs.toArray = (cq zs off v.cells.toList).toArray := by
     have := pf v.cells.toList 0 off zs TX;rw [Vu] at this;rw [← this, ← Array.foldl_toList, Array.toList_zipIdx]
    exact (U9 (fun x => Instr.fill pl x r) h2).trans (xG r _ cs h)
def fF : Nat → List Value → List Value
 | 0, _ => []
 | n + 1, zc => zc ++ fF n zc
theorem mD (n : Nat) (zc : List Value) : (fF n zc).length = n * zc.length := by
 induction n with
 | zero => simp [fF]
 | succ n ih => simp [fF, ih, VV, VU]
theorem xY : ∀ (n : Nat) (zc : List Value) (i : Nat), i < n * zc.length → (fF n zc)[i]? = zc[i % zc.length]?
 | 0, zc, i, h => by simp at h
 | n + 1, zc, i, h => by
  unfold fF
  rcases UP i zc.length with hi | hi
  ·rw [Wi hi, UG hi]
  ·rw [Vg hi, xY n zc (i - zc.length) (by rw [VV] at h; omega)];congr 1;rw [Nat.mod_eq_sub_mod hi]
theorem uw (n : Nat) (zc : List Value) : (Array.range (n * zc.length)).map (fun i => zc.toArray[i % zc.length]!) = (fF n zc).toArray := by
 apply Array.ext_getElem?;intro i
 rcases UP i (n * zc.length) with h | h
 ·have hpos : 0 < zc.length := by
   rcases VZ zc.length with h0 | h0
   ·rw [h0] at h; omega
   ·exact h0
  have hm : i % zc.length < zc.length := Uw _ hpos;simp [h, xY n zc i h, Vq hm]
 ·have h2 : (fF n zc).length ≤ i := by rw [mD]; exact h
  simp [h2, h]
def vT (ρ : Rf) : List (Nat × Operand) → List (Nat × Value)
 | [] => []
 | (i, x) :: l => (i, ev ρ x) :: vT ρ l
theorem Dn {ρ : Rf} (parts : Array (Nat × Operand)) {ps : List (Nat × Value)} (h : vT ρ parts.toList = ps) : (parts.map fun (i, x) => (i, ev ρ x)) = ps.toArray := by
 have h1 : ∀ l : List (Nat × Operand), l.map (fun (i, x) => (i, ev ρ x)) = vT ρ l := by
  intro l
  induction l with
  | nil => rfl
  | cons a l ih => simp only [Ut, ih]; rfl
 subst h;rw [← h1];apply Array.ext';simp
section
variable {P : Program} {N : Nat} {ops : Array Oper} {Q : Kq} {ρ : Rf} {w w0 : World} {rest : List Oper} {H : List HE} {d : Nat} {ty : TypeId} {pos : String} {af : Array Edge}
theorem tU {w' : World} {r : Option Nat} (h : Below w0.heap.size w0 w) (hg : w.grownBy w' r) (hr : ∀ k, r = some k → w0.heap.size ≤ k) : Below w0.heap.size w0 w' := h.grown hg h.size hr
theorem Hp.grown {w' : World} {x y : HE} {i : Nat} (h : Hp w0 H w) (hi : H[i]? = some x) (hg : w.grownBy w' x.id) (hid : y.id = x.id ∨ y.id = none ∨ y.id = some w.heap.size) (hy : y.holds w0.heap.size w') : Hp w0 (H.set i y) w' := by
 refine h.KS hi (fun b hb => ?_) (tU h.below hg fun k hk => (dK (h.at_ hi) hk).1) (fun b hlt hne => hg.block b hlt (fun e => hne e.symm)) hy
 rcases hid with e | e | e
 ·exact .inl (by rw [← e]; exact hb)
 ·rw [e] at hb; cases hb
 ·rw [e] at hb;injection hb with hb
  exact .inr TX
theorem Hp.de (h : Hp w0 H w) (t : TypeId) (sz : Nat) : Hp w0 (.row none 0 0 t sz [] :: H) w :=
 ⟨h.below, fun x hx => by
  rcases Ul.1 hx with rfl | hx
  ·exact World.ownsRow_nil _ _ _ _
  ·exact h.own x hx, by show (List.filterMap HE.id H).Nodup; exact h.nd⟩
theorem Hp.ED (h : Hp w0 H w) (t : TypeId) (cs : List Value) : Hp w0 (.blk w.heap.size t cs (0, 0) :: H) (w.alloc (.cells cs.toArray t)) :=
 h.aW ((Below.refl _ _).alloc (T5 _) _) ⟨T5 _, heap_alloc_new w _, .inr (T5 _)⟩
theorem Hp.DF (h : Hp w0 H w) (t : TypeId) (sz n : Nat) (cs : List Value) (hl : cs.length = n * sz) (hn : n ≤ maxLen) : Hp w0 (.row (some ⟨w.heap.size, 0, none⟩) n n t sz cs :: H) (w.alloc (.cells cs.toArray t)) :=
 h.aW ((Below.refl _ _).alloc (T5 _) _) ⟨hl, .inr ⟨w.heap.size, n, cs.toArray, rfl, T5 _, heap_alloc_new w _, T5 _, hn, by simpa using hl, by simp only [T9 (show cs.length ≤ n * sz by omega)]⟩⟩
theorem Pm (hh : Hp w0 H w) {t : TypeId} {x : Operand} {cs : List Value} {v : Value} (hx : ev ρ x = v) (hc : v.cells = cs.toArray) (hN : d < N)
  (k : ∀ b w', Hp w0 (.blk b t cs (0, 0) :: H) w' → WL ro P N ops Q rest (cI ρ d (.pointer (some ⟨b, 0, none⟩))) w') : WL ro P N ops Q (⟨some d, .box t x, ty, pos, af, none⟩ :: rest) ρ w :=
 aQ rfl rfl hN (w' := w.alloc (.cells cs.toArray t)) (v := .pointer (some ⟨w.heap.size, 0, none⟩)) (by simp [execOp, hx, Instr.box, newVar, newRow, hc]) (k _ _ (hh.ED t cs))
theorem Iy (hh : Hp w0 H w) {t : TypeId} {n by' : Nat} {ag : Bool} {zc : List Value} (ht : dq P t = some (n, ag, by', zc)) (hN : d < N)
  (k : ∀ b w', Hp w0 (.blk b t zc (0, 0) :: H) w' → WL ro P N ops Q rest (cI ρ d (.pointer (some ⟨b, 0, none⟩))) w') : WL ro P N ops Q (⟨some d, .alloc t, ty, pos, af, none⟩ :: rest) ρ w := by
 obtain ⟨z, hz, hzc⟩ := dz (w := w) ht;exact aQ rfl rfl hN (w' := w.alloc (.cells zc.toArray t)) (v := .pointer (some ⟨w.heap.size, 0, none⟩)) (by simp [execOp, Instr.alloc, newVar, newRow, hz, hzc]) (k _ _ (hh.ED t zc))
theorem AL (hh : Hp w0 H w) {t t' : TypeId} {x y : Operand} {i b o n by' : Nat} {ag : Bool} {zc cs vs : List Value} {fz : Nat × Nat} {v : Value} (hx : ev ρ x = .pointer (some ⟨b, o, none⟩)) (hi : H[i]? = some (.blk b t' cs fz))
  (hy : ev ρ y = v) (hc : v.cells = vs.toArray) (ht : dq P t = some (n, ag, by', zc)) (hl : vs.length = n) (ho : o + n ≤ cs.length) (h1 : (vs.all Value.oneCell') = true)
  (k : ∀ w', Hp w0 (H.set i (.blk b t' (cq cs o vs) fz)) w' → WL ro P N ops Q rest ρ w') : WL ro P N ops Q (⟨none, .store t x y, ty, pos, af, none⟩ :: rest) ρ w := by
 have hb := hh.at_ hi;obtain ⟨w', hr, hb', hg, hs⟩ := gE (P := P) (b := b) (t := t') (fz := fz) o vs 0 cs w hb.2.1 hb.2.2 TX (by simpa using h1);refine Dr rfl rfl (w' := w') ?_ (k w' (hh.grown hi hg (.inl rfl) ⟨hb.1, by simpa using hb', by rw [fy TX]; exact hb.2.2⟩));simp [execOp, hx, hy, Instr.storeAt, Instr.sureAddr, storeVar, eS ht, hl, hc, hr]
theorem bO (hh : Hp w0 H w) {t t' : TypeId} {x y : Operand} {i b o n m c sz by' : Nat} {ag : Bool} {zc xs vs : List Value} {v : Value} (hx : ev ρ x = .pointer (some ⟨b, o, none⟩)) (hi : H[i]? = some (.row (some ⟨b, 0, none⟩) m c t' sz xs))
  (hy : ev ρ y = v) (hc : v.cells = vs.toArray) (ht : dq P t = some (n, ag, by', zc)) (hl : vs.length = n) (ho : o + n ≤ xs.length) (h1 : (vs.all Value.oneCell') = true)
  (k : ∀ w', Hp w0 (H.set i (.row (some ⟨b, 0, none⟩) m c t' sz (cq xs o vs))) w' → WL ro P N ops Q rest ρ w') : WL ro P N ops Q (⟨none, .store t x y, ty, pos, af, none⟩ :: rest) ρ w := by
 have hrow := hh.at_ hi;obtain ⟨hlen, h2⟩ := hrow
 rcases h2 with ⟨h2, _⟩ | ⟨g, cap, cur, hv, hg, hheap, hmc, hcm, hcur, htake⟩
 ·injection h2 with h2; cases h2
 ·injection hv with hA hn hcap
  injection hA with hA
  injection hA with hA
  subst hA; subst hcap;have hcl : cur.size = cur.toList.length := by simp
  have hle : m * sz ≤ c * sz := U2 _ hmc;obtain ⟨w', hr, hb', hgr, hs⟩ := gE (P := P) (b := b) (t := t') (fz := (0, 0)) o vs 0 cur.toList w (by simpa using hheap) (.inr (T5 _)) (by rw [← hcl]; omega) (by simpa using h1);refine Dr rfl rfl (w' := w') ?_ (k w' (hh.grown hi hgr (.inl rfl) ⟨by rw [fy TX]; exact hlen, .inr ⟨b, c, (cq cur.toList o vs).toArray, rfl, hg, by simpa using hb', hmc, hcm, ?_, ?_⟩⟩))
  ·simp [execOp, hx, hy, Instr.storeAt, Instr.sureAddr, storeVar, eS ht, hl, hc, hr]
  ·simp only [WJ];rw [fy (by rw [← hcl]; omega), ← hcl, hcur]
  ·exact RB
theorem cP (hh : Hp w0 H w) {t e : TypeId} {len sz by' : Nat} {ag : Bool} {parts : Array (Nat × Operand)} {ps : List (Nat × Value)} {zc cs : List Value} (ht : P.underlying t = some (.slice e)) (hte : dq P e = some (sz, ag, by', zc))
  (hp : vT ρ parts.toList = ps) (hzl : zc.length = sz) (hf : kr (fun i => some (i * sz, sz)) (fF len zc) ps = some cs) (h0 : ¬ len * sz = 0) (hle : len ≤ 1000) (hsl : len * sz ≤ 16777216) (hl : cs.length = len * sz) (hN : d < N)
  (k : ∀ b w', Hp w0 (.row (some ⟨b, 0, none⟩) len len e sz cs :: H) w' → WL ro P N ops Q rest (cI ρ d (.slice (some ⟨b, 0, none⟩) len len)) w') : WL ro P N ops Q (⟨some d, .buildSlice t len parts, ty, pos, af, none⟩ :: rest) ρ w := by
 obtain ⟨z, hz, hzc⟩ := dz (w := w) hte;refine aQ rfl rfl hN (w' := w.alloc (.cells cs.toArray e)) (v := .slice (some ⟨w.heap.size, 0, none⟩) len len) ?_ (k _ _ (hh.DF e sz len cs hl (by unfold maxLen; omega)));exact OR
def pN (P : Program) (t : TypeId) : Option (List (Nat × Nat)) :=
 match P.underlying t with
 | some (.struct fs) => fs.toList.mapM fun f => (P.info? f.type).map fun i => (f.offset, i.size)
 | _ => none
theorem tf {P : Program} {w : World} : ∀ (l : List Field) (pl : List (Nat × Nat)), (l.mapM fun f => (P.info? f.type).map fun i => (f.offset, i.size)) = some pl →
  (l.mapM (m := Sem) fun f => do pure (f.offset, ← sizeOf f.type)).run P w = .ok pl w
 | [], pl, h => by
  simp at h; subst h; simp
 | f :: l, pl, h => by
  rw [List.mapM_cons] at h
  cases hi : P.info? f.type with
  | none => simp [hi] at h
  | some i =>
   cases hr : l.mapM (fun f => (P.info? f.type).map fun i => (f.offset, i.size)) with
   | none => simp [hr] at h
   | some pl' =>
    simp [hi, hr] at h;have ih := tf (w := w) l pl' hr;have hs : (sizeOf f.type).run P w = .ok i.size w := by simp [sizeOf, typeInfo, hi]
    rw [List.mapM_cons, Sem.run_bind, Sem.run_bind, hs, Result.andThen_ok, Sem.run_pure, Result.andThen_ok, Sem.run_bind, ih, Result.andThen_ok, Sem.run_pure, h]
theorem sw {dd : Option Nat} {g : Option (Nat × Bool)} {t : TypeId} {n by' : Nat} {parts : Array (Nat × Operand)} {ps : List (Nat × Value)} {zc cs : List Value} {pl : List (Nat × Nat)} (hte : dq P t = some (n, true, by', zc))
  (hpl : pN P t = some pl)
  (hp : vT ρ parts.toList = ps) (hf : kr (pl[·]?) zc ps = some cs) :
  (execOp (ev ρ) ⟨dd, .build t parts, ty, pos, af, g⟩).run P w = .ok (.value (.agg cs.toArray)) w := by
 obtain ⟨z, hz, hzc⟩ := dz (w := w) hte;unfold pN at hpl;split at hpl
 ·rename_i fs hfs;have h1 := tf (w := w) _ _ hpl;have h2 : (fs.mapM (m := Sem) fun f => do pure (f.offset, ← sizeOf f.type)).run P w = .ok pl.toArray w := by
   have e : fs = fs.toList.toArray := by simp
   rw [e, List.mapM_toArray, Sem.run_map, h1]
   rfl
  have hf' := xG _ _ _ hf;have hpp : (fun (x : Nat) => pl.toArray[x]?) = fun x => pl[x]? := by funext x; simp
  have hp' := Dn parts hp;simp only [execOp, hp', Instr.build, Sem.run_bind, hz, Result.andThen_ok, run_underlying hfs, h2, hzc, hpp, hf', Sem.run_pure]
 ·cases hpl
end
end
section
variable {ro : Mode}
theorem im (A : Option Addr) (n c : Nat) : (Value.slice A n c).ownBlock = A.map (·.block) := by cases A <;> rfl
theorem uL (n : Nat) (z : Value) : fF n [z] = List.replicate n z := by
 induction n with
 | zero => rfl
 | succ n ih => simp [fF, ih, V9]
theorem fq {w : World} {ad : Addr} {xs : List Value} {m : Int} {k : Nat} {v : Value} (h : Rd w ad xs) (hx : xs[k]? = some v) (hm : m = (k : Int)) : w.cell? (ad.add (m.toNat * 1)) = some v := by
 subst hm;simpa using h k v hx
def nq (l : List UInt8) : List Value := l.map fun c => .int .u8 c.toNat
theorem tL (l : List UInt8) : (nq l).length = l.length := by simp [nq]
section
variable {P : Program} {w : World}
theorem o9 (base : Nat) (t ty e : TypeId) (i : TypeInfo) (ht : P.underlying t = some (.slice e)) (hi : P.info? e = some i)
  (v : Value) (n : Nat) (xs : List Value) (sz : Nat) (hown : w.ownsRow base e sz v n xs) (c : Nat) : (Builtin.append_ #[t, t] ty #[v, .slice none 0 c]).run P w = .ok v w := by
 rcases hown.2 with ⟨rfl, rfl⟩ | ⟨g, cap, cur, rfl, _, _, hnc, _⟩
 ·simp [Builtin.append_, run_underlying ht, sizeOf, typeInfo, hi, Builtin.lenOf, Builtin.firstCells]
 ·simp [Builtin.append_, run_underlying ht, sizeOf, typeInfo, hi, Builtin.lenOf, Builtin.firstCells, hnc, storeCells]
theorem u9 (base : Nat) (t ty e : TypeId) (sz by' : Nat) (ag : Bool) (zc : List Value) (ht : P.underlying t = some (.slice e)) (hte : dq P e = some (sz, ag, by', zc)) (hzl : zc.length = sz) (hsz : 0 < sz)
  (A : Option Addr) (n c : Nat) (xs : List Value) (hown : w.ownsRow base e sz (.slice A n c) n xs) (B : Option Addr) (m c' : Nat) (news : List Value) (hsl : Sl w B m sz news) (h1 : ∀ u ∈ news, u.oneCell' = true)
  (h63 : n + m ≤ maxLen) (hbytes : (n + m) * by' ≤ 140737488355328) (hbase : base ≤ w.heap.size) :
  ∃ A' c2 w', (Builtin.append_ #[t, t] ty #[.slice A n c, .slice B m c']).run P w = .ok (.slice A' (n + m) c2) w' ∧ w'.ownsRow base e sz (.slice A' (n + m) c2) (n + m) (xs ++ news) ∧
   w.grownBy w' (A.map (·.block)) ∧ (A'.map (·.block) = A.map (·.block) ∨ A'.map (·.block) = none ∨ A'.map (·.block) = some w.heap.size) := by
 obtain ⟨i, z, d, hi, hd, hz, hs, hby, hzc, _⟩ := eG hte;have hzs : z.cells.size = sz := by rw [hzc]; simpa using hzl
 have fin : ∀ (ad : Addr), B = some ad → Rd w ad news → ∃ A' c2 w', (Builtin.append_ #[t, t] ty #[.slice A n c, .slice B m c']).run P w = .ok (.slice A' (n + m) c2) w' ∧ w'.ownsRow base e sz (.slice A' (n + m) c2) (n + m) (xs ++ news) ∧
   w.grownBy w' (A.map (·.block)) ∧ (A'.map (·.block) = A.map (·.block) ∨ A'.map (·.block) = none ∨ A'.map (·.block) = some w.heap.size) := by
  rintro ad rfl hr;obtain ⟨v', w', hrun, h2, h3, _, h5⟩ := run_append_own_at (P := P) w base t ty e i z sz by' ht hi hz hs hby hzs hsz (.slice A n c) n xs hown ad m c' news hsl.1 hr h1 h63 hbytes hbase;rw [im] at h3
  rcases h2.2 with ⟨hv, h0⟩ | ⟨g, cap, cur, hv, r⟩
  ·subst hv;refine ⟨none, 0, w', by rw [hrun, h0], by rw [h0]; exact h0 ▸ h2, h3, .inr (.inl rfl)⟩
  ·subst hv;refine ⟨_, _, w', hrun, h2, h3, ?_⟩
   rcases h5 with h5 | h5
   ·exact .inl (by rw [← im _ (n + m) cap, h5, im])
   ·exact .inr (.inr (by rw [← im _ (n + m) cap, h5]))
 rcases VZ m with h0 | h0
 ·subst h0;have hnews : news = [] := VC (by simpa using hsl.1);subst hnews
  cases B with
  | none => exact ⟨A, c, w, o9 base t ty e i ht hi _ n xs sz hown c', by simpa using hown, World.grownBy.refl _ _, .inl rfl⟩
  | some ad => exact fin ad rfl (fun j u hu => by simp at hu)
 ·obtain ⟨ad, hB, hr⟩ := hsl.2 h0;exact fin ad hB hr
theorem u3 {A : Option Addr} {n c : Nat} {l : List UInt8} (h : Sl w A n 1 (nq l)) : (Conv.bytesToString (.slice A n c)).run P w = .ok (.string ⟨l.toArray⟩) w := by
 have hn : l.length = n := by have := h.1; rw [tL] at this; omega
 cases A with
 | none =>
  have h0 : n = 0 := by
   rcases VZ n with h0 | h0
   ·exact h0
   ·obtain ⟨ad, h1, _⟩ := h.2 h0; cases h1
  have : l = [] := VC TX;subst this;simp [Conv.bytesToString, ByteArray.empty, ByteArray.emptyWithCapacity]
  rfl
 | some a =>
  have hr : Rd w a (nq l) := by
   rcases VZ n with h0 | h0
   ·have : l = [] := VC TX;subst this;intro j u hu; simp [nq] at hu
   ·obtain ⟨ad, h1, h2⟩ := h.2 h0;injection h1 with h1; subst h1; exact h2
  have e1 : nq l = (l.map fun c : UInt8 => (c.toNat : Int)).map (Value.int .u8) := by simp [nq]
  have hld := run_loadCells_list (P := P) w a (nq l) hr;rw [tL, hn, e1] at hld;rw [run_bytesToString w a n c _ hld];congr 2;have : ∀ (l : List UInt8) (s : ByteArray), (l.map fun c : UInt8 => (c.toNat : Int)).foldl (fun r n => r.push (UInt8.ofNat n.toNat)) s = ⟨s.data ++ l.toArray⟩ := by
   intro l
   induction l with
   | nil => intro s; simp
   | cons c l ih =>
    intro s;simp only [Ut, Xo];rw [ih];have : (s.push (UInt8.ofNat ((c.toNat : Int)).toNat)).data = s.data.push c := by simp [ByteArray.push]
    rw [this];congr 1;apply Array.ext';simp
  rw [this];congr 1;apply Array.ext';simp [ByteArray.empty, ByteArray.emptyWithCapacity]
  rfl
end
section
variable {P : Program} {N : Nat} {ops : Array Oper} {Q : Kq} {ρ : Rf} {w w0 : World} {rest : List Oper} {H : List HE} {d : Nat} {ty : TypeId} {pos : String} {af : Array Edge}
theorem cK (hh : Hp w0 H w) {t e : TypeId} {s x : Operand} {i n c m c' sz by' : Nat} {ag : Bool} {A B : Option Addr} {zc xs news : List Value} (hi : H[i]? = some (.row A n c e sz xs)) (hs : ev ρ s = .slice A n c) (hx : ev ρ x = .slice B m c')
  (hsl : Sl w B m sz news) (ht : P.underlying t = some (.slice e)) (hte : dq P e = some (sz, ag, by', zc)) (hzl : zc.length = sz) (hsz : 0 < sz) (h1 : (news.all Value.oneCell') = true)
  (h63 : n + m ≤ 9223372036854775807) (hbytes : (n + m) * by' ≤ 140737488355328) (hN : d < N)
  (k : ∀ A' c2 w', Hp w0 (H.set i (.row A' (n + m) c2 e sz (xs ++ news))) w' → WL ro P N ops Q rest (cI ρ d (.slice A' (n + m) c2)) w') :
  WL ro P N ops Q (⟨some d, .call ⟨.builtin .append, #[s, x], #[t, t]⟩, ty, pos, af, none⟩ :: rest) ρ w := by
 obtain ⟨A', c2, w', hr, hown, hg, hid⟩ := u9 (P := P) w0.heap.size t ty e sz by' ag zc ht hte hzl hsz A n c xs (hh.at_ hi) B m c' news hsl (by simpa using h1) (by unfold maxLen; omega) hbytes hh.size;refine aQ rfl rfl hN (w' := w') (v := .slice A' (n + m) c2) ?_ (k A' c2 w' (hh.grown hi hg hid hown));simp only [execOp, resolve, invoke, builtin, Sem.run_bind, Sem.run_pure, Result.andThen_ok, List.map_toArray, Ut, UR, hs, hx, hr]
theorem gi (hh : Hp w0 H w) {t e : TypeId} {l cp : Operand} {kl kc : IntKind} {L C : Int} {n sz by' : Nat} {ag : Bool} {zc : List Value} (hl : ev ρ l = .int kl L) (hc : ev ρ cp = .int kc C) (hL : L = (n : Int)) (hC : C = (n : Int))
  (ht : P.underlying t = some (.slice e)) (hte : dq P e = some (sz, ag, by', zc)) (hzl : zc.length = sz) (hb : by' * n ≤ 281474976710656) (h63 : n ≤ 9223372036854775807) (hN : d < N)
  (k : ∀ b w', Hp w0 (.row (some ⟨b, 0, none⟩) n n e sz (fF n zc) :: H) w' → WL ro P N ops Q rest (cI ρ d (.slice (some ⟨b, 0, none⟩) n n)) w') :
  WL ro P N ops Q (⟨some d, .makeSlice t l cp, ty, pos, af, none⟩ :: rest) ρ w := by
 obtain ⟨i, z, dd, hi, hd, hz, hs, hby, hzc, _⟩ := eG hte;subst hL; subst hC;obtain ⟨w', hr, hown, hg⟩ := run_make_full (P := P) w w.heap.size t e i z sz ht hi hz hs kl kc n (by rw [hby]; exact hb) (by unfold maxLen; omega) (T5 _);have hzz : (madeCells z.cells (n * sz)).toList = fF n zc := by
  exact PC
 rw [hzz] at hown;refine aQ rfl rfl hN (w' := w') (v := .slice (some ⟨w.heap.size, 0, none⟩) n n) ?_ (k _ w' (hh.aW ⟨hg.os, hg.tape, hg.output, hg.size, fun j hj => hg.block j hj (by simp)⟩ hown));simp [execOp, hl, hc, hr]
theorem jP (hh : Hp w0 H w) {t e : TypeId} {sz by' : Nat} {ag : Bool} {zc : List Value} (ht : P.underlying t = some (.slice e)) (hte : dq P e = some (sz, ag, by', zc)) (hN : d < N)
  (k : ∀ b w', Hp w0 (.row (some ⟨b, 0, none⟩) 0 0 e sz [] :: H) w' → WL ro P N ops Q rest (cI ρ d (.slice (some ⟨b, 0, none⟩) 0 0)) w') : WL ro P N ops Q (⟨some d, .buildSlice t 0 #[], ty, pos, af, none⟩ :: rest) ρ w := by
 refine aQ rfl rfl hN (w' := w.alloc (.cells #[] e)) (v := .slice (some ⟨w.heap.size, 0, none⟩) 0 0) ?_ (k _ _ (hh.DF e sz 0 [] (by simp) (by unfold maxLen; omega)));have e0 : Array.range 0 = #[] := rfl;simp [execOp, Instr.buildSlice, run_underlying ht, eS hte, Instr.fill, newRow, e0]
theorem ko {dd : Option Nat} {g : Option (Nat × Bool)} {s t e : TypeId} {x : Operand} {A : Option Addr} {n c : Nat} {l : List UInt8} (hs : P.underlying s = some (.slice e)) (he : P.underlying e = some (.int .u8)) (ht : P.underlying t = some .string)
  (hx : ev ρ x = .slice A n c) (h : Sl w A n 1 (nq l)) : (execOp (ev ρ) ⟨dd, .convert s t x, ty, pos, af, g⟩).run P w = .ok (.value (.string ⟨l.toArray⟩)) w := by
 simp [execOp, hx, run_convert_bytes_string w s t e A n c hs he ht, u3 h]
theorem xv (hh : Hp w0 H w) {t : TypeId} {x : Operand} {s : ByteArray} (ht : P.underlying t = some .string) (hx : ev ρ x = .string s) (hN : d < N)
  (k : ∀ b w', Hp w0 (.it b s 0 :: H) w' → WL ro P N ops Q rest (cI ρ d (.pointer (some ⟨b, 0, none⟩))) w') : WL ro P N ops Q (⟨some d, .range t x, ty, pos, af, none⟩ :: rest) ρ w := by
 refine aQ rfl rfl hN (w' := w.alloc (.stringIter s 0)) (v := .pointer (some ⟨w.heap.size, 0, none⟩)) (by simp [execOp, hx, Instr.range, run_underlying ht]) (k _ _ (hh.aW ((Below.refl _ _).alloc (T5 _) _) ⟨T5 _, heap_alloc_new w _⟩))
theorem xl (hh : Hp w0 H w) {x : Operand} {i b p : Nat} {s : ByteArray} (hi : H[i]? = some (.it b s p)) (hx : ev ρ x = .pointer (some ⟨b, 0, none⟩)) (hp : ¬ p < s.size) (hN : d < N)
  (k : WL ro P N ops Q rest (cI ρ d (.tuple #[.bool false])) w) : WL ro P N ops Q (⟨some d, .next x true, ty, pos, af, none⟩ :: rest) ρ w := by
 have h1 := (hh.at_ hi).2;refine aQ rfl rfl hN (w' := w) (v := .tuple #[.bool false]) ?_ k;simp [execOp, hx, Instr.next, getObj, Sem.run, h1, hp]
theorem yA (hh : Hp w0 H w) {x : Operand} {i b p : Nat} {s : ByteArray} {c : UInt8} (hi : H[i]? = some (.it b s p)) (hx : ev ρ x = .pointer (some ⟨b, 0, none⟩)) (hc : s.data.toList[p]? = some c) (h128 : c.toNat < 128) (hN : d < N)
  (k : ∀ w', Hp w0 (H.set i (.it b s (p + 1))) w' → WL ro P N ops Q rest (cI ρ d (.tuple #[.bool true, .int .i64 p, .int .i32 c.toNat])) w') : WL ro P N ops Q (⟨some d, .next x true, ty, pos, af, none⟩ :: rest) ρ w := by
 have h1 := (hh.at_ hi).2;obtain ⟨hlt, hcc⟩ := Uk.1 hc;have hlt' : p < s.size := by simpa using hlt
 have hget : s.get! p = c := by
  have : s.get! p = s.data[p]! := rfl;rw [this, getElem!_pos s.data p hlt'];simpa using hcc
 have hdec : Utf8.decode s p = (c.toNat, 1) := by
  unfold Utf8.decode;simp only [Vu, hget];rw [T2 h128]
 let w' : World := { w with heap := w.heap.setIfInBounds b (.stringIter s (p + 1)) }
 have hb := dK (hh.at_ hi) (b := b) rfl;have hg : w.grownBy w' (some b) := ⟨rfl, rfl, rfl, by simp [w'], fun k _ hne => by
  show (w.heap.setIfInBounds b _)[k]? = _;rw [Array.getElem?_setIfInBounds_ne (fun e => hne (by rw [e]))]⟩
 refine aQ rfl rfl hN (w' := w') (v := .tuple #[.bool true, .int .i64 p, .int .i32 c.toNat]) ?_ (k w' (hh.grown hi hg (.inl rfl) ⟨hb.1, ?_⟩))
 ·simp [execOp, hx, Instr.next, getObj, setObj, Sem.run, h1, hlt', hdec, goInt, w']
 ·show (w.heap.setIfInBounds b _)[b]? = _;simp [hb.2]
end
end
class UK (k : IntKind) (b : outParam Nat) (M : outParam Nat) : Prop where
 bits : k.bits = b
 sgn : k.signed = false
 pow : 2 ^ b = M
instance : UK .u8 8 256 := ⟨rfl, rfl, rfl⟩
instance : UK .u16 16 65536 := ⟨rfl, rfl, rfl⟩
instance : UK .u32 32 4294967296 := ⟨rfl, rfl, rfl⟩
instance : UK .u64 64 18446744073709551616 := ⟨rfl, rfl, rfl⟩
theorem UK.wrap {k : IntKind} {b M : Nat} [h : UK k b M] (n : Nat) : k.wrap (n : Int) = ((n % M : Nat) : Int) := by
 unfold IntKind.wrap;have hM : (2 : Int) ^ k.bits = (M : Int) := by rw [h.bits, ← h.pow]; simp
 simp only [h.sgn, hM, Bool.false_and];simp
theorem UK.pj {k : IntKind} {b M : Nat} [UK k b M] {n : Nat} (hn : n < M) : k.wrap (n : Int) = (n : Int) := by rw [UK.wrap, UG hn]
theorem UK.wrap_add {k : IntKind} {b M : Nat} [h : UK k b M] (z : Int) : k.wrap (z + M) = k.wrap z := by
 unfold IntKind.wrap;have hM : (2 : Int) ^ k.bits = (M : Int) := by rw [h.bits, ← h.pow]; simp
 simp [hM]
section
variable {P : Program} {ρ : Rf} {w : World} {d : Option Nat} {ty : TypeId} {pos : String} {af : Array Edge} {g : Option (Nat × Bool)}
section unats
variable {t u : TypeId} {x y : Operand} {k : IntKind} {q M : Nat} {a b : Nat}
theorem OU [UK k q M] (hx : ev ρ x = .int k (a : Int)) (hy : ev ρ y = .int k (b : Int)) : (execOp (ev ρ) ⟨d, .binOp .add t x y u, ty, pos, af, g⟩).run P w = .ok (.value (.int k (((a + b) % M : Nat) : Int))) w := by
 rw [Og hx hy, ← V0, UK.wrap]
theorem O1 [UK k q M] (hx : ev ρ x = .int k (a : Int)) (hy : ev ρ y = .int k (b : Int)) (hb : b ≤ M) : (execOp (ev ρ) ⟨d, .binOp .sub t x y u, ty, pos, af, g⟩).run P w = .ok (.value (.int k (((a + M - b) % M : Nat) : Int))) w := by
 rw [MQ hx hy, ← UK.wrap (k := k)];have h : ((a + M - b : Nat) : Int) = (a : Int) - b + M := TX;rw [h, UK.wrap_add]
theorem PI [UK k q M] (hx : ev ρ x = .int k (a : Int)) (hy : ev ρ y = .int k (b : Int)) : (execOp (ev ρ) ⟨d, .binOp .mul t x y u, ty, pos, af, g⟩).run P w = .ok (.value (.int k (((a * b) % M : Nat) : Int))) w := by
 rw [MR hx hy, ← Vm, UK.wrap]
theorem PZ [UK k q M] (hx : ev ρ x = .int k (a : Int)) (hy : ev ρ y = .int k (b : Int)) (hb : 0 < b) (ha : a < M) : (execOp (ev ρ) ⟨d, .binOp .quo t x y u, ty, pos, af, g⟩).run P w = .ok (.value (.int k ((a / b : Nat) : Int))) w := by
 rw [Om hx hy TX, ← Int.ofNat_tdiv, UK.pj (U8 (Wq _ _) ha)]
theorem Qb (hx : ev ρ x = .int k (a : Int)) (hy : ev ρ y = .int k (b : Int)) (hb : 0 < b) : (execOp (ev ρ) ⟨d, .binOp .rem t x y u, ty, pos, af, g⟩).run P w = .ok (.value (.int k ((a % b : Nat) : Int))) w := by
 rw [M1 hx hy TX, ← Int.ofNat_tmod]
theorem mZ (n : Nat) (a : Nat) : BitVec.ofInt n (a : Int) = BitVec.ofNat n a := by simp
theorem RE [h : UK k q M] (hx : ev ρ x = .int k (a : Int)) (hy : ev ρ y = .int k (b : Int)) (ha : a < M) (hb : b < M) : (execOp (ev ρ) ⟨d, .binOp .or t x y u, ty, pos, af, g⟩).run P w = .ok (.value (.int k ((a ||| b : Nat) : Int))) w := by
 rw [Sk hx hy, mZ, mZ, BitVec.toNat_or, BitVec.toNat_ofNat, BitVec.toNat_ofNat, h.bits, h.pow, UG ha, UG hb, UK.pj];rw [← h.pow] at ha hb ⊢;exact Nat.or_lt_two_pow ha hb
theorem Qg [h : UK k q M] (hx : ev ρ x = .int k (a : Int)) (hy : ev ρ y = .int k (b : Int)) (ha : a < M) (hb : b < M) : (execOp (ev ρ) ⟨d, .binOp .and t x y u, ty, pos, af, g⟩).run P w = .ok (.value (.int k ((a &&& b : Nat) : Int))) w := by
 rw [NI hx hy, mZ, mZ, BitVec.toNat_and, BitVec.toNat_ofNat, BitVec.toNat_ofNat, h.bits, h.pow, UG ha, UG hb, UK.pj];exact U8 Nat.and_le_left ha
theorem xH [h : UK k q M] {k' : IntKind} {s : Int} (hx : ev ρ x = .int k (a : Int)) (hy : ev ρ y = .int k' s) (hs : 0 ≤ s ∧ s ≤ q) : (execOp (ev ρ) ⟨d, .binOp .shl t x y u, ty, pos, af, g⟩).run P w = .ok (.value (.int k (((a * 2 ^ s.toNat) % M : Nat) : Int))) w := by
 have e : (a : Int) * 2 ^ (min s.toNat k.bits) = ((a * 2 ^ s.toNat : Nat) : Int) := by
  rw [h.bits, U0 TX, Vm, Int.natCast_pow]; rfl
 rw [Q4 hx hy hs.1, e, UK.wrap]
theorem CV [h : UK k q M] {k' : IntKind} {s : Int} (hx : ev ρ x = .int k (a : Int)) (hy : ev ρ y = .int k' s) (hs : 0 ≤ s ∧ s ≤ q) : (execOp (ev ρ) ⟨d, .binOp .shr t x y u, ty, pos, af, g⟩).run P w = .ok (.value (.int k ((a / 2 ^ s.toNat : Nat) : Int))) w := by
 rw [RP hx hy hs.1, h.bits, U0 TX, Int.fdiv_eq_ediv_of_nonneg _ (Int.le_of_lt (Int.pow_pos TX))];simp
theorem Le [UK k q M] {k' : IntKind} {s m : Nat} (hx : ev ρ x = .int k (a : Int)) (hy : ev ρ y = .int k' (s : Int)) (hs : s ≤ q) (hm : 2 ^ s = m) : (execOp (ev ρ) ⟨d, .binOp .shr t x y u, ty, pos, af, g⟩).run P w = .ok (.value (.int k ((a / m : Nat) : Int))) w := by
 rw [CV hx hy TX, ← hm]; rfl
theorem Pc [h : UK k q M] (hx : ev ρ x = .int k (a : Int)) (ha : a ≤ M) : (execOp (ev ρ) ⟨d, .unOp .neg t x, ty, pos, af, g⟩).run P w = .ok (.value (.int k (((M - a) % M : Nat) : Int))) w := by
 rw [NA hx, ← UK.wrap (k := k)];have e : ((M - a : Nat) : Int) = -(a : Int) + M := TX;rw [e, UK.wrap_add]
theorem Mo [UK k q M] {s t : TypeId} {k' : IntKind} {sd : TypeDesc} (hs : P.underlying s = some sd) (ht : P.underlying t = some (.int k)) (hx : ev ρ x = .int k' (a : Int)) :
  (execOp (ev ρ) ⟨d, .convert s t x, ty, pos, af, g⟩).run P w = .ok (.value (.int k ((a % M : Nat) : Int))) w := by
 rw [lF hs ht hx, UK.wrap]
theorem tF [UK k q M] {s t : TypeId} {k' : IntKind} {sd : TypeDesc} (hs : P.underlying s = some sd) (ht : P.underlying t = some (.int k)) (hx : ev ρ x = .int k' (a : Int)) (ha : a < M) :
  (execOp (ev ρ) ⟨d, .convert s t x, ty, pos, af, g⟩).run P w = .ok (.value (.int k (a : Int))) w := by
 rw [lF hs ht hx, UK.pj ha]
end unats
section ints
variable {t u : TypeId} {x y : Operand} {k : IntKind} {a b : Int}
theorem KI (hx : ev ρ x = .int k a) (hy : ev ρ y = .int k b) : (execOp (ev ρ) ⟨d, .binOp .lss t x y u, ty, pos, af, g⟩).run P w = .ok (.value (.bool (decide (a < b)))) w := by
 by_cases h : a < b
 ·rw [LQ hx hy h, Um h]
 ·rw [LS hx hy h, UB h]
theorem Lj (hx : ev ρ x = .int k a) (hy : ev ρ y = .int k b) : (execOp (ev ρ) ⟨d, .binOp .leq t x y u, ty, pos, af, g⟩).run P w = .ok (.value (.bool (decide (a ≤ b)))) w := by
 by_cases h : a ≤ b
 ·rw [Mt hx hy h, Um h]
 ·rw [L3 hx hy h, UB h]
theorem E4 (hx : ev ρ x = .int k a) (hy : ev ρ y = .int k b) : (execOp (ev ρ) ⟨d, .binOp .gtr t x y u, ty, pos, af, g⟩).run P w = .ok (.value (.bool (decide (b < a)))) w := by
 by_cases h : b < a
 ·rw [Ml hx hy h, Um h]
 ·rw [LK hx hy h, UB h]
theorem MC (hx : ev ρ x = .int k a) (hy : ev ρ y = .int k b) : (execOp (ev ρ) ⟨d, .binOp .geq t x y u, ty, pos, af, g⟩).run P w = .ok (.value (.bool (decide (b ≤ a)))) w := by
 by_cases h : b ≤ a
 ·rw [Mv hx hy h, Um h]
 ·rw [MA hx hy h, UB h]
theorem LX (hx : ev ρ x = .int k a) (hy : ev ρ y = .int k b) : (execOp (ev ρ) ⟨d, .binOp .neq t x y u, ty, pos, af, g⟩).run P w = .ok (.value (.bool (decide (a ≠ b)))) w := by
 by_cases h : a = b
 ·rw [Ll hx hy h, UB (by simpa using h)]
 ·rw [KQ hx hy h, Um h]
end ints
section bools
variable {t u : TypeId} {x y : Operand} {a b : Bool}
theorem KG (ht : P.underlying t = some .bool) (hx : ev ρ x = .bool a) (hy : ev ρ y = .bool b) (h : a = b) : (execOp (ev ρ) ⟨d, .binOp .eql t x y u, ty, pos, af, g⟩).run P w = .ok (.value (.bool true)) w := by
 rw [tE ht hx hy, h, beq_self_eq_true]
theorem LH (ht : P.underlying t = some .bool) (hx : ev ρ x = .bool a) (hy : ev ρ y = .bool b) (h : ¬ a = b) : (execOp (ev ρ) ⟨d, .binOp .eql t x y u, ty, pos, af, g⟩).run P w = .ok (.value (.bool false)) w := by
 rw [tE ht hx hy, beq_false_of_ne h]
theorem KD (ht : P.underlying t = some .bool) (hx : ev ρ x = .bool a) (hy : ev ρ y = .bool b) (h : ¬ a = b) : (execOp (ev ρ) ⟨d, .binOp .neq t x y u, ty, pos, af, g⟩).run P w = .ok (.value (.bool true)) w := by
 rw [nM ht hx hy, bne, beq_false_of_ne h]; rfl
theorem Ls (ht : P.underlying t = some .bool) (hx : ev ρ x = .bool a) (hy : ev ρ y = .bool b) (h : a = b) : (execOp (ev ρ) ⟨d, .binOp .neq t x y u, ty, pos, af, g⟩).run P w = .ok (.value (.bool false)) w := by
 rw [nM ht hx hy, bne, h, beq_self_eq_true]; rfl
end bools
theorem g7 {t e : TypeId} {x i : Operand} {ad : Addr} {n c sz k : Nat} {kk : IntKind} {m : Int} (ht : P.underlying t = some (.slice e)) (hsz : (P.info? e).map (·.size) = some sz) (hx : ev ρ x = .slice (some ad) n c) (hi : ev ρ i = .int kk m)
  (hm : m = (k : Int)) (h1 : k < n) : (execOp (ev ρ) ⟨d, .indexAddr t x i, ty, pos, af, g⟩).run P w = .ok (.value (.pointer (some (ad.add (k * sz))))) w := by
 rw [dA ht hsz hx hi TX TX, hm]; rfl
theorem BH {t e : TypeId} {x i : Operand} {b o n c sz k : Nat} {kk : IntKind} {m : Int} (ht : P.underlying t = some (.slice e)) (hsz : (P.info? e).map (·.size) = some sz) (hx : ev ρ x = .slice (some ⟨b, o, none⟩) n c) (hi : ev ρ i = .int kk m)
  (hm : m = (k : Int)) (h1 : k < n) : (execOp (ev ρ) ⟨d, .indexAddr t x i, ty, pos, af, g⟩).run P w = .ok (.value (.pointer (some ⟨b, o + k * sz, none⟩))) w := by
 rw [dA ht hsz hx hi TX TX, hm, fu]; rfl
theorem CB {t e : TypeId} {x i : Operand} {ad : Addr} {n sz k : Nat} {kk : IntKind} {m : Int} (ht : P.underlying t = some (.array n e)) (hsz : (P.info? e).map (·.size) = some sz) (hx : ev ρ x = .pointer (some ad)) (hi : ev ρ i = .int kk m)
  (hm : m = (k : Int)) (h1 : k < n) : (execOp (ev ρ) ⟨d, .indexAddr t x i, ty, pos, af, g⟩).run P w = .ok (.value (.pointer (some (ad.add (k * sz))))) w := by
 obtain ⟨i, hi1, hi2⟩ := VJ.1 hsz;have h2 : (k : Int) < n := TX;subst hm;simp [execOp, hx, hi, Instr.indexAt, asIntOf, run_underlying ht, sizeOf, typeInfo, hi1, hi2, Instr.sureAddr, h1]
theorem AX {t e : TypeId} {x hi : Operand} {A : Option Addr} {n c h sz : Nat} {k : IntKind} {m : Int} (ht : P.underlying t = some (.slice e)) (hsz : (P.info? e).map (·.size) = some sz) (hx : ev ρ x = .slice A n c) (hhi : ev ρ hi = .int k m)
  (hm : m = (h : Int)) (h2 : h ≤ c) : (execOp (ev ρ) ⟨d, .slice t x none (some hi) none, ty, pos, af, g⟩).run P w = .ok (.value (.slice A h c)) w := by
 rw [iZ (lo := none) (hi := some hi) (l := 0) (h := h) ht hsz hx rfl ⟨k, m, hhi, hm⟩ (T6 _) h2];congr 3
 cases A with
 | none => simp
 | some ad => simp [Addr.add]
theorem BL {t e : TypeId} {x lo : Operand} {b o n c l sz : Nat} {k : IntKind} {m : Int} (ht : P.underlying t = some (.slice e)) (hsz : (P.info? e).map (·.size) = some sz) (hx : ev ρ x = .slice (some ⟨b, o, none⟩) n c) (hlo : ev ρ lo = .int k m)
  (hm : m = (l : Int)) (h1 : l ≤ n) (h2 : n ≤ c) (h3 : l < c) : (execOp (ev ρ) ⟨d, .slice t x (some lo) none none, ty, pos, af, g⟩).run P w = .ok (.value (.slice (some ⟨b, o + l * sz, none⟩) (n - l) (c - l))) w := by
 rw [iZ (lo := some lo) (hi := none) (l := l) (h := n) ht hsz hx ⟨k, m, hlo, hm⟩ rfl h1 h2, T3 TX];simp only [Vx, fu]
theorem zJ {t e : TypeId} {x lo : Operand} {ad : Addr} {n c l sz : Nat} {k : IntKind} {m : Int} (ht : P.underlying t = some (.slice e)) (hsz : (P.info? e).map (·.size) = some sz) (hx : ev ρ x = .slice (some ad) n c) (hlo : ev ρ lo = .int k m)
  (hm : m = (l : Int)) (h1 : l ≤ n) (h2 : n ≤ c) (h3 : l < c) : (execOp (ev ρ) ⟨d, .slice t x (some lo) none none, ty, pos, af, g⟩).run P w = .ok (.value (.slice (some (ad.add (l * sz))) (n - l) (c - l))) w := by
 rw [iZ (lo := some lo) (hi := none) (l := l) (h := n) ht hsz hx ⟨k, m, hlo, hm⟩ rfl h1 h2, T3 TX]
 rfl
end
theorem Rd.xT {w : World} {ad : Addr} {xs : List Value} {k : Nat} {v : Value} (h : Rd w ad xs) (hx : xs[k]? = some v) : w.cell? (ad.add (k * 1)) = some v := by
 rw [Uo]; exact h k v hx
def cY (l : List Nat) : List Value := l.map fun (d : Nat) => .int .u64 (d : Int)
theorem a8 (l : List Nat) : (cY l).length = l.length := by simp [cY]
theorem ef {l : List Nat} {k d : Nat} (h : l[k]? = some d) : (cY l)[k]? = some (.int .u64 (d : Int)) := by simp [cY, h]
theorem fN (l : List Nat) (k d : Nat) : (cY l).set k (.int .u64 (d : Int)) = cY (l.set k d) := by simp [cY, Wo]
theorem Ao (a b : List Nat) : cY (a ++ b) = cY a ++ cY b := by simp [cY]
theorem wb (a : List Nat) (k : Nat) : cY (a.take k) = (cY a).take k := by simp [cY, WM]
theorem vD (a : List Nat) (k : Nat) : cY (a.drop k) = (cY a).drop k := by simp [cY, Wv]
theorem dp (l : List Nat) : ((cY l).all Value.oneCell') = true := by simp [cY, Value.oneCell']
theorem pk (n : Nat) : fF n [Value.int .u64 0] = cY (List.replicate n 0) := by rw [uL]; simp [cY]
def gC (l : List Nat) : List Value := l.map fun (d : Nat) => .int .u8 (d : Int)
theorem cN (l : List Nat) : (gC l).length = l.length := by simp [gC]
theorem qe {l : List Nat} {k d : Nat} (h : l[k]? = some d) : (gC l)[k]? = some (.int .u8 (d : Int)) := by simp [gC, h]
theorem oN (l : List Nat) (k d : Nat) : (gC l).set k (.int .u8 (d : Int)) = gC (l.set k d) := by simp [gC, Wo]
theorem tI (a b : List Nat) : gC (a ++ b) = gC a ++ gC b := by simp [gC]
theorem zn (a : List Nat) (k : Nat) : gC (a.take k) = (gC a).take k := by simp [gC, WM]
theorem dR (l : List Nat) : ((gC l).all Value.oneCell') = true := by simp [gC, Value.oneCell']
theorem pQ (n : Nat) : fF n [Value.int .u8 0] = gC (List.replicate n 0) := by rw [uL]; simp [gC]
theorem Fs {l : List Nat} (h : ∀ d ∈ l, d < 256) : gC l = nq (l.map UInt8.ofNat) := by
 rw [gC, nq, U5];apply V7;intro d hd;have := h d hd;simp only [Function.comp, Xd];congr 2;omega
theorem Sl.P8 {w : World} {ad : Addr} {n : Nat} {ys : List Nat} {k d : Nat} (h : Sl w (some ad) n 1 (cY ys)) (hd : ys[k]? = some d) : w.cell? (ad.add (k * 1)) = some (.int .u64 (d : Int)) := by
 have hl := h.1;have hk := (Uk.1 hd).1;rw [a8] at hl;obtain ⟨ad', he, hr⟩ := h.2 TX;injection he with he
 subst he;exact hr.xT (ef hd)
theorem yE {pre done r post : List Nat} {x : Nat} : (pre ++ (done ++ x :: r) ++ post)[pre.length + done.length]? = some x := by
 rw [UI, Vg TX, UI, Vg TX];simp
theorem m9 {pre done r post : List Nat} {x y : Nat} : (pre ++ (done ++ x :: r) ++ post).set (pre.length + done.length) y = pre ++ ((done ++ [y]) ++ r) ++ post := by
 rw [UI, V3 _ _ TX, UI, V3 _ _ TX];simp
theorem cM {cs : List Value} {o : Nat} {v : Value} (h : o < cs.length) : cq cs o [v] = cs.set o v := by
 unfold cq;rw [Xh, T2 h];simp
theorem Hp.front {w0 w : World} {H : List HE} {x : HE} (h : Hp w0 H w) (i : Nat) (hi : H[i]? = some x) : Hp w0 (x :: H.eraseIdx i) w := by
 have hp : H.Perm (x :: H.eraseIdx i) := by
  clear h
  induction H generalizing i with
  | nil => simp at hi
  | cons y H ih =>
   cases i with
   | zero => simp at hi; subst hi; simp
   | succ i =>
    simp only [WI] at hi;simp only [List.eraseIdx_cons_succ];exact ((ih i hi).cons y).trans (List.Perm.swap x y _)
 exact ⟨h.below, fun y hy => h.own y (hp.mem_iff.2 hy), (hp.filterMap _).nodup_iff.1 h.nd⟩
theorem Hp.BD {w0 w : World} {H : List HE} {A : Option Addr} {n c : Nat} {t : TypeId} {sz : Nat} {xs : List Value} (h : Hp w0 (.row A n c t sz xs :: H) w) {k : Nat} (hk : k ≤ n) : Hp w0 (.row A k c t sz (xs.take (k * sz)) :: H) w := by
 refine ⟨h.below, fun y hy => ?_, h.nd⟩
 rcases Ul.1 hy with rfl | hy
 ·have h1 : w.ownsRow w0.heap.size t sz (.slice A n c) n xs := h.own _ Uc;obtain ⟨h2, h3⟩ := h1;have hkn : k * sz ≤ n * sz := U2 _ hk;refine ⟨by rw [Us]; omega, ?_⟩
  rcases h3 with ⟨h3, h4⟩ | ⟨g, cap, cur, hv, hb, hg, h4, h5, h6, h7⟩
  ·injection h3 with h5 h6 h7
   subst h5 h6 h7;exact .inl ⟨by rw [show k = 0 by omega], TX⟩
  ·injection hv with h8 h9 h10
   subst h8;refine .inr ⟨g, cap, cur, by rw [h10], hb, hg, TX, h5, h6, ?_⟩;rw [← h7, List.take_take, U0 hkn]
 ·exact h.own y (Uf _ hy)
theorem Hp.fI {w0 w : World} {H : List HE} {A : Option Addr} {n c : Nat} {t : TypeId} {sz : Nat} {xs : List Value} {i : Nat} (h : Hp w0 H w) (hi : H[i]? = some (.row A n c t sz xs)) : n ≤ c := by
 have h1 : w.ownsRow w0.heap.size t sz (.slice A n c) n xs := h.at_ hi
 rcases h1.2 with ⟨h3, h4⟩ | ⟨g, cap, cur, hv, hb, hg, h4, h5, h6, h7⟩
 ·omega
 ·injection hv with h8 h9 h10
  omega
section
variable {ro : Mode}
section
variable {P : Program} {N : Nat} {ops : Array Oper} {Q : Kq} {ρ : Rf} {w w0 : World} {rest : List Oper} {H : List HE} {d : Nat} {ty : TypeId} {pos : String} {af : Array Edge}
theorem qK {x : Operand} {v : Value} (hx : ev ρ x = v) (hN : d < N) (kk : WL ro P N ops Q rest (cI ρ d v) w) :
  WL ro P N ops Q (⟨some d, .move x, ty, pos, af, none⟩ :: rest) ρ w := aQ rfl rfl hN (eH hx) kk
theorem jW {x : Operand} {v : Value} (hx : ev ρ x = v) (hN : d < N) (kk : WL ro P N ops Q rest (cI ρ d v) w) :
  WL ro P N ops Q (⟨some d, .assign x, ty, pos, af, none⟩ :: rest) ρ w := aQ rfl rfl hN (Jc hx) kk
theorem JT {c a b : Operand} {v : Value} (hc : ev ρ c = .bool true) (hx : ev ρ a = v) (hN : d < N) (kk : WL ro P N ops Q rest (cI ρ d v) w) :
  WL ro P N ops Q (⟨some d, .pick c a b, ty, pos, af, none⟩ :: rest) ρ w := aQ rfl rfl hN (Bq hc hx) kk
theorem H4 {c a b : Operand} {v : Value} (hc : ev ρ c = .bool false) (hx : ev ρ b = v) (hN : d < N) (kk : WL ro P N ops Q rest (cI ρ d v) w) :
  WL ro P N ops Q (⟨some d, .pick c a b, ty, pos, af, none⟩ :: rest) ρ w := aQ rfl rfl hN (zv hc hx) kk
section
variable {t u : TypeId} {x y : Operand} {k : IntKind} {a b : Int}
theorem ER (hx : ev ρ x = .int k a) (hy : ev ρ y = .int k b) (hN : d < N) (kk : WL ro P N ops Q rest (cI ρ d (.bool (decide (a = b)))) w) :
  WL ro P N ops Q (⟨some d, .binOp .eql t x y u, ty, pos, af, none⟩ :: rest) ρ w := aQ rfl rfl hN (E7 hx hy) kk
theorem Pk (hx : ev ρ x = .int .i64 a) (hy : ev ρ y = .int .i64 b) (h1 : -9223372036854775808 ≤ a + b) (h2 : a + b ≤ 9223372036854775807) (hN : d < N) (kk : WL ro P N ops Q rest (cI ρ d (.int .i64 (a + b))) w) :
  WL ro P N ops Q (⟨some d, .binOp .add t x y u, ty, pos, af, none⟩ :: rest) ρ w := aQ rfl rfl hN (Hs hx hy h1 h2) kk
theorem Po (hx : ev ρ x = .int .i64 a) (hy : ev ρ y = .int .i64 b) (h1 : -9223372036854775808 ≤ a - b) (h2 : a - b ≤ 9223372036854775807) (hN : d < N) (kk : WL ro P N ops Q rest (cI ρ d (.int .i64 (a - b))) w) :
  WL ro P N ops Q (⟨some d, .binOp .sub t x y u, ty, pos, af, none⟩ :: rest) ρ w := aQ rfl rfl hN (JI hx hy h1 h2) kk
theorem P5 (hx : ev ρ x = .int .i64 a) (hy : ev ρ y = .int .i64 b) (h1 : -9223372036854775808 ≤ a * b) (h2 : a * b ≤ 9223372036854775807) (hN : d < N) (kk : WL ro P N ops Q rest (cI ρ d (.int .i64 (a * b))) w) :
  WL ro P N ops Q (⟨some d, .binOp .mul t x y u, ty, pos, af, none⟩ :: rest) ρ w := aQ rfl rfl hN (G4 hx hy h1 h2) kk
theorem ym (hx : ev ρ x = .int .i64 a) (h1 : -9223372036854775808 ≤ -a) (h2 : -a ≤ 9223372036854775807) (hN : d < N) (kk : WL ro P N ops Q rest (cI ρ d (.int .i64 (-a))) w) :
  WL ro P N ops Q (⟨some d, .unOp .neg t x, ty, pos, af, none⟩ :: rest) ρ w := aQ rfl rfl hN (J9 hx h1 h2) kk
theorem Pv (hx : ev ρ x = .int .i64 a) (hy : ev ρ y = .int .i64 b) (ha : 0 ≤ a) (hb : 0 < b) (h2 : a ≤ 9223372036854775807) (hN : d < N) (kk : WL ro P N ops Q rest (cI ρ d (.int .i64 (a / b))) w) :
  WL ro P N ops Q (⟨some d, .binOp .quo t x y u, ty, pos, af, none⟩ :: rest) ρ w := aQ rfl rfl hN (qo hx hy ha hb h2) kk
theorem OM (hx : ev ρ x = .int .i64 a) (hy : ev ρ y = .int .i64 b) (ha : 0 ≤ a) (hb : 0 < b) (hN : d < N) (kk : WL ro P N ops Q rest (cI ρ d (.int .i64 (a % b))) w) :
  WL ro P N ops Q (⟨some d, .binOp .rem t x y u, ty, pos, af, none⟩ :: rest) ρ w := aQ rfl rfl hN (n9 hx hy ha hb) kk
end
theorem RL {t : TypeId} {x : Operand} {b : Bool} (hx : ev ρ x = .bool b) (hN : d < N) (kk : WL ro P N ops Q rest (cI ρ d (.bool !b)) w) :
  WL ro P N ops Q (⟨some d, .unOp .not t x, ty, pos, af, none⟩ :: rest) ρ w := aQ rfl rfl hN (M7 hx) kk
section
variable {t u : TypeId} {x y : Operand} {a b : Bool}
end
section
variable {t u : TypeId} {x y : Operand} {a b : ByteArray}
theorem kx (hx : ev ρ x = .string a) (hy : ev ρ y = .string b) (h : a = b) (hN : d < N) (kk : WL ro P N ops Q rest (cI ρ d (.bool true)) w) :
  WL ro P N ops Q (⟨some d, .binOp .eql t x y u, ty, pos, af, none⟩ :: rest) ρ w := aQ rfl rfl hN (zG hx hy h) kk
theorem j9 (hx : ev ρ x = .string a) (hy : ev ρ y = .string b) (h : ¬ a = b) (hN : d < N) (kk : WL ro P N ops Q rest (cI ρ d (.bool false)) w) :
  WL ro P N ops Q (⟨some d, .binOp .eql t x y u, ty, pos, af, none⟩ :: rest) ρ w := aQ rfl rfl hN (yW hx hy h) kk
theorem km (hx : ev ρ x = .string a) (hy : ev ρ y = .string b) (h : ¬ a = b) (hN : d < N) (kk : WL ro P N ops Q rest (cI ρ d (.bool true)) w) :
  WL ro P N ops Q (⟨some d, .binOp .neq t x y u, ty, pos, af, none⟩ :: rest) ρ w := aQ rfl rfl hN (yR hx hy h) kk
theorem kv (hx : ev ρ x = .string a) (hy : ev ρ y = .string b) (h : a = b) (hN : d < N) (kk : WL ro P N ops Q rest (cI ρ d (.bool false)) w) :
  WL ro P N ops Q (⟨some d, .binOp .neq t x y u, ty, pos, af, none⟩ :: rest) ρ w := aQ rfl rfl hN (Bn hx hy h) kk
theorem Fy (hx : ev ρ x = .string a) (hy : ev ρ y = .string b) (hN : d < N) (kk : WL ro P N ops Q rest (cI ρ d (.bool (Op.bytesLess a.toList b.toList))) w) :
  WL ro P N ops Q (⟨some d, .binOp .lss t x y u, ty, pos, af, none⟩ :: rest) ρ w := aQ rfl rfl hN (F1 hx hy) kk
theorem F3 (hx : ev ρ x = .string a) (hy : ev ρ y = .string b) (hN : d < N) (kk : WL ro P N ops Q rest (cI ρ d (.bool !(Op.bytesLess a.toList b.toList || a.toList == b.toList))) w) :
  WL ro P N ops Q (⟨some d, .binOp .gtr t x y u, ty, pos, af, none⟩ :: rest) ρ w := aQ rfl rfl hN (Ga hx hy) kk
theorem xf (hx : ev ρ x = .string a) (hy : ev ρ y = .string b) (hN : d < N) (kk : WL ro P N ops Q rest (cI ρ d (.bool !(Op.bytesLess a.toList b.toList))) w) :
  WL ro P N ops Q (⟨some d, .binOp .geq t x y u, ty, pos, af, none⟩ :: rest) ρ w := aQ rfl rfl hN (GD hx hy) kk
end
theorem uI {s t : TypeId} {x : Operand} {k k' : IntKind} {a : Int} {sd : TypeDesc} (hs : P.underlying s = some sd) (ht : P.underlying t = some (.int k)) (hx : ev ρ x = .int k' a) (hN : d < N) (kk : WL ro P N ops Q rest (cI ρ d (.int k (k.wrap a))) w) :
  WL ro P N ops Q (⟨some d, .convert s t x, ty, pos, af, none⟩ :: rest) ρ w := aQ rfl rfl hN (lF hs ht hx) kk
theorem BW {s t : TypeId} {x : Operand} {k' : IntKind} {a : Int} {sd : TypeDesc} (hs : P.underlying s = some sd) (ht : P.underlying t = some (.int .i64)) (hx : ev ρ x = .int k' a) (h1 : -9223372036854775808 ≤ a) (h2 : a ≤ 9223372036854775807) (hN : d < N) (kk : WL ro P N ops Q rest (cI ρ d (.int .i64 a)) w) :
  WL ro P N ops Q (⟨some d, .convert s t x, ty, pos, af, none⟩ :: rest) ρ w := aQ rfl rfl hN (CZ hs ht hx h1 h2) kk
theorem FO {x : Operand} {i : Nat} {vs : List Value} {v : Value} (hx : ev ρ x = .tuple vs.toArray) (hv : vs[i]? = some v) (hN : d < N) (kk : WL ro P N ops Q rest (cI ρ d v) w) :
  WL ro P N ops Q (⟨some d, .extract x i, ty, pos, af, none⟩ :: rest) ρ w := aQ rfl rfl hN (fB hx hv) kk
theorem ua {fn : Fn} {first captured : Array Operand} {fs cs : List Value} (hf : vC ρ first.toList = fs) (hc : vC ρ captured.toList = cs) (hN : d < N) (kk : WL ro P N ops Q rest (cI ρ d (.func fn fs.toArray cs.toArray)) w) :
  WL ro P N ops Q (⟨some d, .makeFunc fn first captured, ty, pos, af, none⟩ :: rest) ρ w := aQ rfl rfl hN (C9 hf hc) kk
theorem bI {x : Operand} {t : TypeId} {s : ByteArray} (ht : P.underlying t = some .string) (hx : ev ρ x = .string s) (hN : d < N) (kk : WL ro P N ops Q rest (cI ρ d (.int .i64 s.size)) w) :
  WL ro P N ops Q (⟨some d, .call ⟨.builtin .len, #[x], #[t]⟩, ty, pos, af, none⟩ :: rest) ρ w := aQ rfl rfl hN (Gj ht hx) kk
theorem ID {x : Operand} {t e : TypeId} {A : Option Addr} {n c : Nat} (ht : P.underlying t = some (.slice e)) (hx : ev ρ x = .slice A n c) (hN : d < N) (kk : WL ro P N ops Q rest (cI ρ d (.int .i64 n)) w) :
  WL ro P N ops Q (⟨some d, .call ⟨.builtin .len, #[x], #[t]⟩, ty, pos, af, none⟩ :: rest) ρ w := aQ rfl rfl hN (Bk ht hx) kk
theorem wO {x y : Operand} {ts : Array TypeId} {k : IntKind} {a b : Int} (hx : ev ρ x = .int k a) (hy : ev ρ y = .int k b) (hN : d < N) (kk : WL ro P N ops Q rest (cI ρ d (.int k (if b < a then b else a))) w) :
  WL ro P N ops Q (⟨some d, .call ⟨.builtin .min, #[x, y], ts⟩, ty, pos, af, none⟩ :: rest) ρ w := aQ rfl rfl hN (Rl hx hy) kk
theorem kQ {x y : Operand} {ts : Array TypeId} {k : IntKind} {a b : Int} (hx : ev ρ x = .int k a) (hy : ev ρ y = .int k b) (hN : d < N) (kk : WL ro P N ops Q rest (cI ρ d (.int k (if b > a then b else a))) w) :
  WL ro P N ops Q (⟨some d, .call ⟨.builtin .max, #[x, y], ts⟩, ty, pos, af, none⟩ :: rest) ρ w := aQ rfl rfl hN (NF hx hy) kk
theorem rv {t : TypeId} {x i : Operand} {s : ByteArray} {n : Int} {k : IntKind} {c : UInt8} (ht : P.underlying t = some .string) (hx : ev ρ x = .string s) (hi : ev ρ i = .int k n)
  (h0 : 0 ≤ n) (hc : s.data.toList[n.toNat]? = some c) (hN : d < N) (kk : WL ro P N ops Q rest (cI ρ d (.int .u8 c.toNat)) w) :
  WL ro P N ops Q (⟨some d, .index t x i, ty, pos, af, none⟩ :: rest) ρ w := aQ rfl rfl hN (rH ht hx hi h0 hc) kk
theorem rg {t : TypeId} {x : Operand} {lo hi : Option Operand} {s : ByteArray} {l h : Nat} (ht : P.underlying t = some .string) (hx : ev ρ x = .string s)
  (hlo : match lo with | none => l = 0 | some o => ∃ (k : IntKind) (n : Int), ev ρ o = .int k n ∧ n = l) (hhi : match hi with | none => h = s.size | some o => ∃ (k : IntKind) (n : Int), ev ρ o = .int k n ∧ n = h)
  (h1 : l ≤ h) (h2 : h ≤ s.size) (hN : d < N) (kk : WL ro P N ops Q rest (cI ρ d (.string (s.extract l h))) w) :
  WL ro P N ops Q (⟨some d, .slice t x lo hi none, ty, pos, af, none⟩ :: rest) ρ w := aQ rfl rfl hN (AV ht hx hlo hhi h1 h2) kk
theorem yS {t e : TypeId} {x i : Operand} {ad : Addr} {n c sz : Nat} {k : IntKind} {m : Int} (ht : P.underlying t = some (.slice e)) (hsz : (P.info? e).map (·.size) = some sz) (hx : ev ρ x = .slice (some ad) n c) (hi : ev ρ i = .int k m)
  (h0 : 0 ≤ m) (h1 : m < n) (hN : d < N) (kk : WL ro P N ops Q rest (cI ρ d (.pointer (some (ad.add (m.toNat * sz))))) w) :
  WL ro P N ops Q (⟨some d, .indexAddr t x i, ty, pos, af, none⟩ :: rest) ρ w := aQ rfl rfl hN (dA ht hsz hx hi h0 h1) kk
theorem cV {t e : TypeId} {x i : Operand} {b n c sz k : Nat} {kk : IntKind} {m : Int} (ht : P.underlying t = some (.slice e)) (hsz : (P.info? e).map (·.size) = some sz) (hx : ev ρ x = .slice (some ⟨b, 0, none⟩) n c) (hi : ev ρ i = .int kk m)
  (hm : m = (k : Int)) (h1 : k < n) (hN : d < N) (kk : WL ro P N ops Q rest (cI ρ d (.pointer (some ⟨b, k * sz, none⟩))) w) :
  WL ro P N ops Q (⟨some d, .indexAddr t x i, ty, pos, af, none⟩ :: rest) ρ w := aQ rfl rfl hN (nP ht hsz hx hi hm h1) kk
theorem cw {t : TypeId} {x : Operand} {ad : Addr} {n by' : Nat} {zc vs : List Value} (ht : dq P t = some (n, true, by', zc)) (hx : ev ρ x = .pointer (some ad)) (hr : Rd w ad vs) (hl : vs.length = n) (hN : d < N) (kk : WL ro P N ops Q rest (cI ρ d (.agg vs.toArray)) w) :
  WL ro P N ops Q (⟨some d, .load t x, ty, pos, af, none⟩ :: rest) ρ w := aQ rfl rfl hN (Cl ht hx hr hl) kk
theorem bT {t : TypeId} {x : Operand} {ad : Addr} {n by' : Nat} {zc : List Value} {v : Value} (ht : dq P t = some (n, false, by', zc)) (hx : ev ρ x = .pointer (some ad)) (hc : w.cell? ad = some v) (hN : d < N) (kk : WL ro P N ops Q rest (cI ρ d v) w) :
  WL ro P N ops Q (⟨some d, .load t x, ty, pos, af, none⟩ :: rest) ρ w := aQ rfl rfl hN (jb ht hx hc) kk
theorem yV {s : TypeId} {x : Operand} {f b o off : Nat} {ft : TypeId} (hf : gH P s f = some (off, ft)) (hx : ev ρ x = .pointer (some ⟨b, o, none⟩)) (hN : d < N) (kk : WL ro P N ops Q rest (cI ρ d (.pointer (some ⟨b, o + off, none⟩))) w) :
  WL ro P N ops Q (⟨some d, .fieldAddr s x f, ty, pos, af, none⟩ :: rest) ρ w := aQ rfl rfl hN (rp hf hx) kk
theorem xr {s : TypeId} {x : Operand} {f off : Nat} {ad : Addr} {ft : TypeId} (hf : gH P s f = some (off, ft)) (hx : ev ρ x = .pointer (some ad)) (hN : d < N) (kk : WL ro P N ops Q rest (cI ρ d (.pointer (some (ad.add off)))) w) :
  WL ro P N ops Q (⟨some d, .fieldAddr s x f, ty, pos, af, none⟩ :: rest) ρ w := aQ rfl rfl hN (pR hf hx) kk
theorem Mz {s : TypeId} {x : Operand} {f off n by' : Nat} {ft : TypeId} {cs vs : Array Value} {zc : List Value} (hf : gH P s f = some (off, ft)) (ht : dq P ft = some (n, true, by', zc)) (hx : ev ρ x = .agg cs) (hv : cs.extract off (off + n) = vs) (hN : d < N) (kk : WL ro P N ops Q rest (cI ρ d (.agg vs)) w) :
  WL ro P N ops Q (⟨some d, .field s x f, ty, pos, af, none⟩ :: rest) ρ w := aQ rfl rfl hN (KO hf ht hx hv) kk
theorem K1 {t : TypeId} {n by' : Nat} {parts : Array (Nat × Operand)} {ps : List (Nat × Value)} {zc cs : List Value} {pl : List (Nat × Nat)} (hte : dq P t = some (n, true, by', zc))
  (hpl : pN P t = some pl)
  (hp : vT ρ parts.toList = ps) (hf : kr (pl[·]?) zc ps = some cs) (hN : d < N) (kk : WL ro P N ops Q rest (cI ρ d (.agg cs.toArray)) w) :
  WL ro P N ops Q (⟨some d, .build t parts, ty, pos, af, none⟩ :: rest) ρ w := aQ rfl rfl hN (sw hte hpl hp hf) kk
theorem rq {s t e : TypeId} {x : Operand} {A : Option Addr} {n c : Nat} {l : List UInt8} (hs : P.underlying s = some (.slice e)) (he : P.underlying e = some (.int .u8)) (ht : P.underlying t = some .string)
  (hx : ev ρ x = .slice A n c) (h : Sl w A n 1 (nq l)) (hN : d < N) (kk : WL ro P N ops Q rest (cI ρ d (.string ⟨l.toArray⟩)) w) :
  WL ro P N ops Q (⟨some d, .convert s t x, ty, pos, af, none⟩ :: rest) ρ w := aQ rfl rfl hN (ko hs he ht hx h) kk
section
variable {t u : TypeId} {x y : Operand} {k : IntKind} {q M : Nat} {a b : Nat}
theorem iB [UK k q M] (hx : ev ρ x = .int k (a : Int)) (hy : ev ρ y = .int k (b : Int)) (hN : d < N) (kk : WL ro P N ops Q rest (cI ρ d (.int k (((a + b) % M : Nat) : Int))) w) :
  WL ro P N ops Q (⟨some d, .binOp .add t x y u, ty, pos, af, none⟩ :: rest) ρ w := aQ rfl rfl hN (OU hx hy) kk
theorem C5 [UK k q M] (hx : ev ρ x = .int k (a : Int)) (hy : ev ρ y = .int k (b : Int)) (hb : b ≤ M) (hN : d < N) (kk : WL ro P N ops Q rest (cI ρ d (.int k (((a + M - b) % M : Nat) : Int))) w) :
  WL ro P N ops Q (⟨some d, .binOp .sub t x y u, ty, pos, af, none⟩ :: rest) ρ w := aQ rfl rfl hN (O1 hx hy hb) kk
theorem qi [UK k q M] (hx : ev ρ x = .int k (a : Int)) (hy : ev ρ y = .int k (b : Int)) (hN : d < N) (kk : WL ro P N ops Q rest (cI ρ d (.int k (((a * b) % M : Nat) : Int))) w) :
  WL ro P N ops Q (⟨some d, .binOp .mul t x y u, ty, pos, af, none⟩ :: rest) ρ w := aQ rfl rfl hN (PI hx hy) kk
theorem Pq [UK k q M] (hx : ev ρ x = .int k (a : Int)) (hy : ev ρ y = .int k (b : Int)) (hb : 0 < b) (ha : a < M) (hN : d < N) (kk : WL ro P N ops Q rest (cI ρ d (.int k ((a / b : Nat) : Int))) w) :
  WL ro P N ops Q (⟨some d, .binOp .quo t x y u, ty, pos, af, none⟩ :: rest) ρ w := aQ rfl rfl hN (PZ hx hy hb ha) kk
theorem CK (hx : ev ρ x = .int k (a : Int)) (hy : ev ρ y = .int k (b : Int)) (hb : 0 < b) (hN : d < N) (kk : WL ro P N ops Q rest (cI ρ d (.int k ((a % b : Nat) : Int))) w) :
  WL ro P N ops Q (⟨some d, .binOp .rem t x y u, ty, pos, af, none⟩ :: rest) ρ w := aQ rfl rfl hN (Qb hx hy hb) kk
theorem RU [h : UK k q M] (hx : ev ρ x = .int k (a : Int)) (hy : ev ρ y = .int k (b : Int)) (ha : a < M) (hb : b < M) (hN : d < N) (kk : WL ro P N ops Q rest (cI ρ d (.int k ((a ||| b : Nat) : Int))) w) :
  WL ro P N ops Q (⟨some d, .binOp .or t x y u, ty, pos, af, none⟩ :: rest) ρ w := aQ rfl rfl hN (RE hx hy ha hb) kk
theorem Cx [h : UK k q M] (hx : ev ρ x = .int k (a : Int)) (hy : ev ρ y = .int k (b : Int)) (ha : a < M) (hb : b < M) (hN : d < N) (kk : WL ro P N ops Q rest (cI ρ d (.int k ((a &&& b : Nat) : Int))) w) :
  WL ro P N ops Q (⟨some d, .binOp .and t x y u, ty, pos, af, none⟩ :: rest) ρ w := aQ rfl rfl hN (Qg hx hy ha hb) kk
theorem CE [h : UK k q M] {k' : IntKind} {s : Int} (hx : ev ρ x = .int k (a : Int)) (hy : ev ρ y = .int k' s) (hs : 0 ≤ s ∧ s ≤ q) (hN : d < N) (kk : WL ro P N ops Q rest (cI ρ d (.int k ((a / 2 ^ s.toNat : Nat) : Int))) w) :
  WL ro P N ops Q (⟨some d, .binOp .shr t x y u, ty, pos, af, none⟩ :: rest) ρ w := aQ rfl rfl hN (CV hx hy hs) kk
theorem lY [UK k q M] {k' : IntKind} {s m : Nat} (hx : ev ρ x = .int k (a : Int)) (hy : ev ρ y = .int k' (s : Int)) (hs : s ≤ q) (hm : 2 ^ s = m) (hN : d < N) (kk : WL ro P N ops Q rest (cI ρ d (.int k ((a / m : Nat) : Int))) w) :
  WL ro P N ops Q (⟨some d, .binOp .shr t x y u, ty, pos, af, none⟩ :: rest) ρ w := aQ rfl rfl hN (Le hx hy hs hm) kk
theorem Jv [h : UK k q M] (hx : ev ρ x = .int k (a : Int)) (ha : a ≤ M) (hN : d < N) (kk : WL ro P N ops Q rest (cI ρ d (.int k (((M - a) % M : Nat) : Int))) w) :
  WL ro P N ops Q (⟨some d, .unOp .neg t x, ty, pos, af, none⟩ :: rest) ρ w := aQ rfl rfl hN (Pc hx ha) kk
theorem K0 [UK k q M] {s t : TypeId} {k' : IntKind} {sd : TypeDesc} (hs : P.underlying s = some sd) (ht : P.underlying t = some (.int k)) (hx : ev ρ x = .int k' (a : Int)) (hN : d < N) (kk : WL ro P N ops Q rest (cI ρ d (.int k ((a % M : Nat) : Int))) w) :
  WL ro P N ops Q (⟨some d, .convert s t x, ty, pos, af, none⟩ :: rest) ρ w := aQ rfl rfl hN (Mo hs ht hx) kk
theorem CQ [UK k q M] {s t : TypeId} {k' : IntKind} {sd : TypeDesc} (hs : P.underlying s = some sd) (ht : P.underlying t = some (.int k)) (hx : ev ρ x = .int k' (a : Int)) (ha : a < M) (hN : d < N) (kk : WL ro P N ops Q rest (cI ρ d (.int k (a : Int))) w) :
  WL ro P N ops Q (⟨some d, .convert s t x, ty, pos, af, none⟩ :: rest) ρ w := aQ rfl rfl hN (tF hs ht hx ha) kk
end
section
variable {t u : TypeId} {x y : Operand} {k : IntKind} {a b : Int}
theorem K5 (hx : ev ρ x = .int k a) (hy : ev ρ y = .int k b) (hN : d < N) (kk : WL ro P N ops Q rest (cI ρ d (.bool (decide (a < b)))) w) :
  WL ro P N ops Q (⟨some d, .binOp .lss t x y u, ty, pos, af, none⟩ :: rest) ρ w := aQ rfl rfl hN (KI hx hy) kk
theorem Mk (hx : ev ρ x = .int k a) (hy : ev ρ y = .int k b) (hN : d < N) (kk : WL ro P N ops Q rest (cI ρ d (.bool (decide (a ≤ b)))) w) :
  WL ro P N ops Q (⟨some d, .binOp .leq t x y u, ty, pos, af, none⟩ :: rest) ρ w := aQ rfl rfl hN (Lj hx hy) kk
theorem Lp (hx : ev ρ x = .int k a) (hy : ev ρ y = .int k b) (hN : d < N) (kk : WL ro P N ops Q rest (cI ρ d (.bool (decide (b < a)))) w) :
  WL ro P N ops Q (⟨some d, .binOp .gtr t x y u, ty, pos, af, none⟩ :: rest) ρ w := aQ rfl rfl hN (E4 hx hy) kk
theorem Mw (hx : ev ρ x = .int k a) (hy : ev ρ y = .int k b) (hN : d < N) (kk : WL ro P N ops Q rest (cI ρ d (.bool (decide (b ≤ a)))) w) :
  WL ro P N ops Q (⟨some d, .binOp .geq t x y u, ty, pos, af, none⟩ :: rest) ρ w := aQ rfl rfl hN (MC hx hy) kk
theorem LL (hx : ev ρ x = .int k a) (hy : ev ρ y = .int k b) (hN : d < N) (kk : WL ro P N ops Q rest (cI ρ d (.bool (decide (a ≠ b)))) w) :
  WL ro P N ops Q (⟨some d, .binOp .neq t x y u, ty, pos, af, none⟩ :: rest) ρ w := aQ rfl rfl hN (LX hx hy) kk
end
section
variable {t u : TypeId} {x y : Operand} {a b : Bool}
theorem Fg (ht : P.underlying t = some .bool) (hx : ev ρ x = .bool a) (hy : ev ρ y = .bool b) (h : a = b) (hN : d < N) (kk : WL ro P N ops Q rest (cI ρ d (.bool true)) w) :
  WL ro P N ops Q (⟨some d, .binOp .eql t x y u, ty, pos, af, none⟩ :: rest) ρ w := aQ rfl rfl hN (KG ht hx hy h) kk
theorem Ma (ht : P.underlying t = some .bool) (hx : ev ρ x = .bool a) (hy : ev ρ y = .bool b) (h : ¬ a = b) (hN : d < N) (kk : WL ro P N ops Q rest (cI ρ d (.bool false)) w) :
  WL ro P N ops Q (⟨some d, .binOp .eql t x y u, ty, pos, af, none⟩ :: rest) ρ w := aQ rfl rfl hN (LH ht hx hy h) kk
theorem D3 (ht : P.underlying t = some .bool) (hx : ev ρ x = .bool a) (hy : ev ρ y = .bool b) (h : ¬ a = b) (hN : d < N) (kk : WL ro P N ops Q rest (cI ρ d (.bool true)) w) :
  WL ro P N ops Q (⟨some d, .binOp .neq t x y u, ty, pos, af, none⟩ :: rest) ρ w := aQ rfl rfl hN (KD ht hx hy h) kk
theorem Mb (ht : P.underlying t = some .bool) (hx : ev ρ x = .bool a) (hy : ev ρ y = .bool b) (h : a = b) (hN : d < N) (kk : WL ro P N ops Q rest (cI ρ d (.bool false)) w) :
  WL ro P N ops Q (⟨some d, .binOp .neq t x y u, ty, pos, af, none⟩ :: rest) ρ w := aQ rfl rfl hN (Ls ht hx hy h) kk
end
theorem da {t e : TypeId} {x i : Operand} {ad : Addr} {n c sz k : Nat} {kk : IntKind} {m : Int} (ht : P.underlying t = some (.slice e)) (hsz : (P.info? e).map (·.size) = some sz) (hx : ev ρ x = .slice (some ad) n c) (hi : ev ρ i = .int kk m)
  (hm : m = (k : Int)) (h1 : k < n) (hN : d < N) (kk : WL ro P N ops Q rest (cI ρ d (.pointer (some (ad.add (k * sz))))) w) :
  WL ro P N ops Q (⟨some d, .indexAddr t x i, ty, pos, af, none⟩ :: rest) ρ w := aQ rfl rfl hN (g7 ht hsz hx hi hm h1) kk
theorem om {t e : TypeId} {x i : Operand} {b o n c sz k : Nat} {kk : IntKind} {m : Int} (ht : P.underlying t = some (.slice e)) (hsz : (P.info? e).map (·.size) = some sz) (hx : ev ρ x = .slice (some ⟨b, o, none⟩) n c) (hi : ev ρ i = .int kk m)
  (hm : m = (k : Int)) (h1 : k < n) (hN : d < N) (kk : WL ro P N ops Q rest (cI ρ d (.pointer (some ⟨b, o + k * sz, none⟩))) w) :
  WL ro P N ops Q (⟨some d, .indexAddr t x i, ty, pos, af, none⟩ :: rest) ρ w := aQ rfl rfl hN (BH ht hsz hx hi hm h1) kk
theorem Cp {t e : TypeId} {x i : Operand} {ad : Addr} {n sz k : Nat} {kk : IntKind} {m : Int} (ht : P.underlying t = some (.array n e)) (hsz : (P.info? e).map (·.size) = some sz) (hx : ev ρ x = .pointer (some ad)) (hi : ev ρ i = .int kk m)
  (hm : m = (k : Int)) (h1 : k < n) (hN : d < N) (kk : WL ro P N ops Q rest (cI ρ d (.pointer (some (ad.add (k * sz))))) w) :
  WL ro P N ops Q (⟨some d, .indexAddr t x i, ty, pos, af, none⟩ :: rest) ρ w := aQ rfl rfl hN (CB ht hsz hx hi hm h1) kk
theorem pO {t e : TypeId} {x hi : Operand} {A : Option Addr} {n c h sz : Nat} {k : IntKind} {m : Int} (ht : P.underlying t = some (.slice e)) (hsz : (P.info? e).map (·.size) = some sz) (hx : ev ρ x = .slice A n c) (hhi : ev ρ hi = .int k m)
  (hm : m = (h : Int)) (h2 : h ≤ c) (hN : d < N) (kk : WL ro P N ops Q rest (cI ρ d (.slice A h c)) w) :
  WL ro P N ops Q (⟨some d, .slice t x none (some hi) none, ty, pos, af, none⟩ :: rest) ρ w := aQ rfl rfl hN (AX ht hsz hx hhi hm h2) kk
theorem Dd {t e : TypeId} {x lo : Operand} {b o n c l sz : Nat} {k : IntKind} {m : Int} (ht : P.underlying t = some (.slice e)) (hsz : (P.info? e).map (·.size) = some sz) (hx : ev ρ x = .slice (some ⟨b, o, none⟩) n c) (hlo : ev ρ lo = .int k m)
  (hm : m = (l : Int)) (h1 : l ≤ n) (h2 : n ≤ c) (h3 : l < c) (hN : d < N) (kk : WL ro P N ops Q rest (cI ρ d (.slice (some ⟨b, o + l * sz, none⟩) (n - l) (c - l))) w) :
  WL ro P N ops Q (⟨some d, .slice t x (some lo) none none, ty, pos, af, none⟩ :: rest) ρ w := aQ rfl rfl hN (BL ht hsz hx hlo hm h1 h2 h3) kk
theorem Bj {t e : TypeId} {x lo : Operand} {ad : Addr} {n c l sz : Nat} {k : IntKind} {m : Int} (ht : P.underlying t = some (.slice e)) (hsz : (P.info? e).map (·.size) = some sz) (hx : ev ρ x = .slice (some ad) n c) (hlo : ev ρ lo = .int k m)
  (hm : m = (l : Int)) (h1 : l ≤ n) (h2 : n ≤ c) (h3 : l < c) (hN : d < N) (kk : WL ro P N ops Q rest (cI ρ d (.slice (some (ad.add (l * sz))) (n - l) (c - l))) w) :
  WL ro P N ops Q (⟨some d, .slice t x (some lo) none none, ty, pos, af, none⟩ :: rest) ρ w := aQ rfl rfl hN (zJ ht hsz hx hlo hm h1 h2 h3) kk
theorem aZ : vC ρ [] = [] := rfl
theorem aw {x : Operand} {l : List Operand} {v : Value} {r : List Value} (hx : ev ρ x = v) (h : vC ρ l = r) : vC ρ (x :: l) = v :: r := by simp only [vC, hx, h]
theorem bU : vT ρ [] = [] := rfl
theorem aM {i : Nat} {x : Operand} {l : List (Nat × Operand)} {v : Value} {r : List (Nat × Value)} (hx : ev ρ x = v) (h : vT ρ l = r) : vT ρ ((i, x) :: l) = (i, v) :: r := by simp only [vT, hx, h]
def CG (P : Program) (f : FuncId) : Bool := match P.funcs[f]? with | some fn => !fn.body.isNone && !(fn.name == "runtime.NumGoroutine") | none => false
theorem vV {P : Program} {f : FuncId} (h : CG P f = true) : ∃ fn, P.funcs[f]? = some fn ∧ fn.body.isNone = false ∧ (fn.name == "runtime.NumGoroutine") = false := by
 unfold CG at h;split at h
 ·rename_i fn hf;simp only [Uj, Xl] at h;exact ⟨fn, hf, h.1, h.2⟩
 ·cases h
theorem aO {dd : Option Nat} {g : Option (Nat × Bool)} {f : FuncId} {args : Array Operand} {ts : Array TypeId} {vs : List Value} (hf : CG P f = true) (ha : vC ρ args.toList = vs) :
  (execOp (ev ρ) ⟨dd, .call ⟨.value (.func f), args, ts⟩, ty, pos, af, g⟩).run P w = .ok (.enter f vs.toArray) w := by
 obtain ⟨fn, h1, h2, h3⟩ := vV hf;have := IM (P := P) (w := w) (d := dd) (ty := ty) (pos := pos) (af := af) (g := g) (ts := ts) h1 h2 h3 (show ev ρ (.func f) = .func (.func f) #[] #[] from rfl) (mW args ha);simpa using this
theorem F8 {dd : Option Nat} {g : Option (Nat × Bool)} {x : Operand} {f : FuncId} {args : Array Operand} {ts : Array TypeId} {first cap vs : List Value} (hf : CG P f = true) (hx : ev ρ x = .func (.func f) first.toArray cap.toArray) (ha : first ++ (vC ρ args.toList ++ cap) = vs) :
  (execOp (ev ρ) ⟨dd, .call ⟨.value x, args, ts⟩, ty, pos, af, g⟩).run P w = .ok (.enter f vs.toArray) w := by
 obtain ⟨fn, h1, h2, h3⟩ := vV hf;have := IM (P := P) (w := w) (d := dd) (ty := ty) (pos := pos) (af := af) (g := g) (ts := ts) h1 h2 h3 hx (mW args rfl);subst ha;simpa using this
theorem aF {f : FuncId} {args : Array Operand} {ts : Array TypeId} {vs : List Value} {R : Ending → World → Prop} (hc : Calls P f vs.toArray w R) (hf : CG P f = true) (ha : vC ρ args.toList = vs) (hN : d < N)
  (kk : ∀ e w', R e w' → ∃ v, e = .returned v ∧ WL ro P N ops Q rest (cI ρ d v) w') : WL ro P N ops Q (⟨some d, .call ⟨.value (.func f), args, ts⟩, ty, pos, af, none⟩ :: rest) ρ w :=
 zO rfl rfl hN (aO hf ha) hc kk
theorem gg {x : Operand} {f : FuncId} {args : Array Operand} {ts : Array TypeId} {first cap vs : List Value} {R : Ending → World → Prop} (hc : Calls P f vs.toArray w R) (hf : CG P f = true) (hx : ev ρ x = .func (.func f) first.toArray cap.toArray) (ha : first ++ (vC ρ args.toList ++ cap) = vs) (hN : d < N)
  (kk : ∀ e w', R e w' → ∃ v, e = .returned v ∧ WL ro P N ops Q rest (cI ρ d v) w') : WL ro P N ops Q (⟨some d, .call ⟨.value x, args, ts⟩, ty, pos, af, none⟩ :: rest) ρ w :=
 zO rfl rfl hN (F8 hf hx ha) hc kk
end
end
end Go.Proofs.YteeckcbbnegmcaaGreatDoor
