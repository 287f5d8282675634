/- Lemmas for bernSlopes, part 1. -/
import Derived.KernelRfl
import Derived.Test.YteeckcbbnegmcaaGreatDoorRows
import Derived.WalkKit
import Derived.ProofKit
import Derived.OpenShut
import Derived.Carry
import Derived.WalkLawsBesides
import Derived.Below
import Derived.Laws.OwnMore
import Derived.Laws.Rows
import Derived.RegionTactic
import Derived.ControlIn
import Derived.TacticsIn
import Derived.AtR
import Derived.Deep.AppendLies
import Derived.Maps.AppendAt
import Derived.OwnWalk
namespace Go.Proofs.YteeckcbbnegmcaaGreatDoor
open Go.ChangeShapes Go.WideShapes Go.ChangeAt Go.RowKit
theorem UE : type_of% @if_neg := @if_neg
theorem UF : type_of% @if_pos := @if_pos
theorem UG : type_of% @List.Sublist.cons_cons := @List.Sublist.cons_cons
theorem UH : type_of% @Nat.le_refl := @Nat.le_refl
theorem UI : type_of% @Nat.zero_le := @Nat.zero_le
theorem UJ : type_of% @List.mem_of_getElem? := @List.mem_of_getElem?
theorem UL : type_of% @List.Sublist.cons := @List.Sublist.cons
theorem UM : type_of% @List.length_append := @List.length_append
theorem UN : type_of% @List.nil_append := @List.nil_append
theorem UO : type_of% @List.getElem?_map := @List.getElem?_map
theorem UP : type_of% @List.cons_append := @List.cons_append
theorem UQ : type_of% @List.take_of_length_le := @List.take_of_length_le
theorem UR : type_of% @List.mem_cons_self := @List.mem_cons_self
theorem US : type_of% @List.length_map := @List.length_map
theorem UT : type_of% @List.mem_cons_of_mem := @List.mem_cons_of_mem
theorem UU : type_of% @List.set_cons_zero := @List.set_cons_zero
theorem UW : type_of% @List.getElem?_eq_some_iff := @List.getElem?_eq_some_iff
theorem UX : type_of% @Bool.and_eq_true := @Bool.and_eq_true
theorem UY : type_of% @List.mem_map := @List.mem_map
theorem UZ : type_of% @List.mem_cons := @List.mem_cons
theorem U0 : type_of% @decide_eq_true := @decide_eq_true
theorem U1 : type_of% @Nat.le_trans := @Nat.le_trans
theorem U2 : type_of% @decide_eq_true_eq := @decide_eq_true_eq
theorem U3 : type_of% @Nat.mul_one := @Nat.mul_one
theorem U4 : type_of% @List.mem_singleton := @List.mem_singleton
theorem U5 : type_of% @Nat.zero_add := @Nat.zero_add
theorem U6 : type_of% @List.length_take := @List.length_take
theorem U7 : type_of% @List.length_cons := @List.length_cons
theorem U8 : type_of% @Nat.pow_add := @Nat.pow_add
theorem U9 : type_of% @List.map_cons := @List.map_cons
theorem Va : type_of% @Nat.mod_lt := @Nat.mod_lt
theorem Vb : type_of% @List.all_eq_true := @List.all_eq_true
theorem Vd : type_of% @List.getElem?_eq_none := @List.getElem?_eq_none
theorem Ve : type_of% @List.Sublist.slnil := @List.Sublist.slnil
theorem Vf : type_of% @decide_eq_false := @decide_eq_false
theorem Vg : type_of% @Nat.mul_comm := @Nat.mul_comm
theorem Vh : type_of% @Nat.mod_eq_of_lt := @Nat.mod_eq_of_lt
theorem Vi : type_of% @List.mem_range := @List.mem_range
theorem Vj : type_of% @Nat.pow_pos := @Nat.pow_pos
theorem Vk : type_of% @List.mem_append := @List.mem_append
theorem Vl : type_of% @Option.some.inj := @Option.some.inj
theorem Vm : type_of% @Nat.mul_le_mul_left := @Nat.mul_le_mul_left
theorem Vn : type_of% @List.length_reverse := @List.length_reverse
theorem Vo : type_of% @List.append_nil := @List.append_nil
theorem Vp : type_of% @List.set_cons_succ := @List.set_cons_succ
theorem Vq : type_of% @List.getElem?_range := @List.getElem?_range
theorem Vr : type_of% @Nat.pow_le_pow_right := @Nat.pow_le_pow_right
theorem Vs : type_of% @List.sublist_cons_self := @List.sublist_cons_self
theorem Vt : type_of% @List.append_assoc := @List.append_assoc
theorem Vu : type_of% @Nat.pow_mul := @Nat.pow_mul
theorem Vv : type_of% @Nat.lt_or_ge := @Nat.lt_or_ge
theorem Vw : type_of% @Nat.sub_self := @Nat.sub_self
theorem Vx : type_of% @Nat.div_eq_of_lt := @Nat.div_eq_of_lt
theorem Vy : type_of% @Nat.pow_succ := @Nat.pow_succ
theorem Vz : type_of% @Nat.mul_add := @Nat.mul_add
theorem VA : type_of% @List.take_append_drop := @List.take_append_drop
theorem VB : type_of% @Nat.mul_assoc := @Nat.mul_assoc
theorem VC : type_of% @List.map_append := @List.map_append
theorem VD : type_of% @List.map_nil := @List.map_nil
theorem VE : type_of% @List.map_map := @List.map_map
theorem VF : type_of% @List.mem_filterMap := @List.mem_filterMap
theorem VG : type_of% @Nat.mul_le_mul_right := @Nat.mul_le_mul_right
theorem VH : type_of% @List.perm_middle := @List.perm_middle
theorem VI : type_of% @Bool.false_or := @Bool.false_or
theorem VJ : type_of% @congrArg := @congrArg
theorem VK : type_of% @Nat.lt_of_le_of_lt := @Nat.lt_of_le_of_lt
theorem VM : type_of% @Nat.min_eq_left := @Nat.min_eq_left
theorem VN : type_of% @Nat.lt_of_lt_of_le := @Nat.lt_of_lt_of_le
theorem VO : type_of% @Nat.succ_mul := @Nat.succ_mul
theorem VQ : type_of% @List.getD_eq_getElem?_getD := @List.getD_eq_getElem?_getD
theorem VR : type_of% @Array.getD_eq_getD_getElem? := @Array.getD_eq_getD_getElem?
theorem VS : type_of% @Nat.add_mul_div_left := @Nat.add_mul_div_left
theorem VT : type_of% @List.nil_sublist := @List.nil_sublist
theorem VU : type_of% @List.ext_getElem? := @List.ext_getElem?
theorem VV : type_of% @Option.getD_some := @Option.getD_some
theorem VW : type_of% @List.getElem?_append_right := @List.getElem?_append_right
theorem VX : type_of% @List.Sublist.refl := @List.Sublist.refl
theorem VY : type_of% @List.length_drop := @List.length_drop
theorem VZ : type_of% @List.getElem?_eq_getElem := @List.getElem?_eq_getElem
theorem V0 : type_of% @List.drop_eq_getElem_cons := @List.drop_eq_getElem_cons
theorem V1 : type_of% @List.length_replicate := @List.length_replicate
theorem V2 : type_of% @Int.natCast_mul := @Int.natCast_mul
theorem V3 : type_of% @Nat.mul_le_mul := @Nat.mul_le_mul
theorem V4 : type_of% @List.pairwise_cons := @List.pairwise_cons
theorem V5 : type_of% @Nat.div_lt_iff_lt_mul := @Nat.div_lt_iff_lt_mul
theorem V6 : type_of% @List.mem_iff_getElem? := @List.mem_iff_getElem?
theorem V7 : type_of% @List.mem_filter := @List.mem_filter
theorem V8 : type_of% @Int.toNat_natCast := @Int.toNat_natCast
theorem V9 : type_of% @of_decide_eq_true := @of_decide_eq_true
theorem Wa : type_of% @Nat.add_mul_mod_self_left := @Nat.add_mul_mod_self_left
theorem Wb : type_of% @List.any_eq_false := @List.any_eq_false
theorem Wc : type_of% @Option.map_eq_some_iff := @Option.map_eq_some_iff
theorem Wd : type_of% @List.getElem?_set := @List.getElem?_set
theorem We : type_of% @Nat.add_zero := @Nat.add_zero
theorem Wf : type_of% @Nat.mul_succ := @Nat.mul_succ
theorem Wg : type_of% @Int.sign_eq_one_of_pos := @Int.sign_eq_one_of_pos
theorem Wh : type_of% @Int.sign_eq_neg_one_of_neg := @Int.sign_eq_neg_one_of_neg
theorem Wi : type_of% @List.any_eq_true := @List.any_eq_true
theorem Wj : type_of% @Option.map_some := @Option.map_some
theorem Wk : type_of% @List.eq_nil_of_length_eq_zero := @List.eq_nil_of_length_eq_zero
theorem Wl : type_of% @beq_iff_eq := @beq_iff_eq
theorem Wm : type_of% @List.filterMap_cons := @List.filterMap_cons
theorem Wn : type_of% @Nat.div_add_mod := @Nat.div_add_mod
theorem Wo : type_of% @Nat.div_div_eq_div_mul := @Nat.div_div_eq_div_mul
theorem Wp : type_of% @List.mem_append_right := @List.mem_append_right
theorem Wq : type_of% @List.getElem?_take := @List.getElem?_take
theorem Wr : type_of% @Nat.one_mul := @Nat.one_mul
theorem Ws : type_of% @List.map_congr_left := @List.map_congr_left
theorem Wt : type_of% @List.getElem?_drop := @List.getElem?_drop
theorem Wu : type_of% @List.drop_of_length_le := @List.drop_of_length_le
theorem Wv : type_of% @Option.some.injEq := @Option.some.injEq
theorem Ww : type_of% @List.getElem?_reverse := @List.getElem?_reverse
theorem Wx : type_of% @Nat.add_comm := @Nat.add_comm
theorem Wy : type_of% @List.range_succ := @List.range_succ
theorem Wz : type_of% @Classical.byContradiction := @Classical.byContradiction
theorem WB : type_of% @List.mem_append_left := @List.mem_append_left
theorem WE : type_of% @Int.natCast_add := @Int.natCast_add
theorem WG : type_of% @Nat.eq_zero_or_pos := @Nat.eq_zero_or_pos
theorem WH : type_of% @Dyadic.zero_add := @Dyadic.zero_add
theorem WI : type_of% @List.mem_flatMap := @List.mem_flatMap
theorem WJ : type_of% @Nat.add_mul := @Nat.add_mul
theorem WK : type_of% @List.length_range := @List.length_range
theorem WM : type_of% @List.nodup_cons := @List.nodup_cons
theorem WN : type_of% @Bool.and_eq_true_iff := @Bool.and_eq_true_iff
theorem WO : type_of% @Dyadic.one_mul := @Dyadic.one_mul
theorem WQ : type_of% @Int.natAbs_mul := @Int.natAbs_mul
theorem WS : type_of% @List.replicate_succ := @List.replicate_succ
theorem WT : type_of% @List.map_set := @List.map_set
theorem WU : type_of% @List.length_set := @List.length_set
theorem WV : type_of% @List.getElem?_append_left := @List.getElem?_append_left
theorem WW : type_of% @List.set_append_right := @List.set_append_right
theorem WX : type_of% @List.mem_of_mem_take := @List.mem_of_mem_take
theorem WY : type_of% @List.take_zero := @List.take_zero
theorem WZ : type_of% @Array.getElem?_eq_getElem := @Array.getElem?_eq_getElem
theorem W0 : type_of% @List.getElem?_toArray := @List.getElem?_toArray
theorem W3 : type_of% @Option.bind_some := @Option.bind_some
theorem W4 : type_of% @Dyadic.pow_zero := @Dyadic.pow_zero
theorem W5 : type_of% @Classical.not_not := @Classical.not_not
theorem W6 : type_of% @Bool.or_eq_true := @Bool.or_eq_true
theorem W7 : type_of% @List.filterMap_append := @List.filterMap_append
theorem W8 : type_of% @Dyadic.zero_mul := @Dyadic.zero_mul
theorem W9 : type_of% @List.length_eq_zero_iff := @List.length_eq_zero_iff
theorem Xa : type_of% @List.sublist_append_left := @List.sublist_append_left
theorem Xb : type_of% @List.mem_reverse := @List.mem_reverse
theorem Xc : type_of% @Dyadic.mul_zero := @Dyadic.mul_zero
theorem Xd : type_of% @Dyadic.add_zero := @Dyadic.add_zero
theorem Xe : type_of% @Nat.div_le_self := @Nat.div_le_self
theorem Xf : type_of% @Nat.mod_add_div := @Nat.mod_add_div
theorem Xg : type_of% @List.reverse_cons := @List.reverse_cons
theorem Xh : type_of% @Bool.eq_false_iff := @Bool.eq_false_iff
theorem Xi : type_of% @Nat.add_assoc := @Nat.add_assoc
theorem Xj : type_of% @Array.ext' := @Array.ext'
theorem Xk : type_of% @List.map_singleton := @List.map_singleton
theorem Xl : type_of% @Nat.zero_mul := @Nat.zero_mul
theorem Xm : type_of% @List.size_toArray := @List.size_toArray
theorem Xn : type_of% @List.getElem?_cons_succ := @List.getElem?_cons_succ
theorem Xo : type_of% @Nat.mul_lt_mul_of_pos_right := @Nat.mul_lt_mul_of_pos_right
theorem Xp : type_of% @Dyadic.pow_succ := @Dyadic.pow_succ
theorem Xq : type_of% @List.flatMap_cons := @List.flatMap_cons
theorem Xr : type_of% @List.map_drop := @List.map_drop
theorem Xs : type_of% @Nat.pow_zero := @Nat.pow_zero
theorem Xt : type_of% @Int.natAbs_pow := @Int.natAbs_pow
theorem Xu : type_of% @List.flatMap_append := @List.flatMap_append
theorem Xv : type_of% @List.map_id' := @List.map_id'
theorem Xw : type_of% @Array.getElem?_eq_some_iff := @Array.getElem?_eq_some_iff
theorem Xx : type_of% @List.getElem?_mapIdx := @List.getElem?_mapIdx
theorem Xy : type_of% @List.take_length := @List.take_length
theorem Xz : type_of% @List.length_nil := @List.length_nil
theorem XA : type_of% @UInt8.toNat_inj := @UInt8.toNat_inj
theorem XB : type_of% @List.map_take := @List.map_take
theorem XC : type_of% @Nat.lt_of_not_le := @Nat.lt_of_not_le
theorem XD : type_of% @Int.lt_trichotomy := @Int.lt_trichotomy
theorem XE : type_of% @Int.mul_le_mul := @Int.mul_le_mul
theorem XF : type_of% @List.filter_append := @List.filter_append
theorem XG : type_of% @List.reverse_reverse := @List.reverse_reverse
theorem XH : type_of% @List.length_finRange := @List.length_finRange
theorem XI : type_of% @List.nodup_append := @List.nodup_append
theorem XJ : type_of% @List.any_cons := @List.any_cons
theorem XK : type_of% @List.any_append := @List.any_append
theorem XL : type_of% @Array.getElem?_eq_none := @Array.getElem?_eq_none
theorem XM : type_of% @List.getElem?_cons_zero := @List.getElem?_cons_zero
theorem XN : type_of% @List.any_nil := @List.any_nil
theorem XO : type_of% @Int.eq_ofNat_of_zero_le := @Int.eq_ofNat_of_zero_le
theorem XP : type_of% @Bool.false_eq_true := @Bool.false_eq_true
theorem XQ : type_of% @List.Pairwise.nil := @List.Pairwise.nil
theorem XR : type_of% @List.mem_of_mem_drop := @List.mem_of_mem_drop
theorem XS : type_of% @decide_eq_false_iff_not := @decide_eq_false_iff_not
theorem XT : type_of% @List.set_eq_take_append_cons_drop := @List.set_eq_take_append_cons_drop
theorem XU : type_of% @List.sublist_append_right := @List.sublist_append_right
theorem XV : type_of% @List.foldl_append := @List.foldl_append
theorem XW : type_of% @UInt8.le_iff_toNat_le := @UInt8.le_iff_toNat_le
theorem XX : type_of% @Array.all_eq_true' := @Array.all_eq_true'
theorem XY : type_of% @List.replicate_zero := @List.replicate_zero
theorem XZ : type_of% @UInt8.toNat_sub_of_le := @UInt8.toNat_sub_of_le
theorem X1 : type_of% @Nat.mul_left_comm := @Nat.mul_left_comm
theorem X2 : type_of% @UInt8.toNat_ofNat' := @UInt8.toNat_ofNat'
theorem X3 : type_of% @Bool.not_eq_true' := @Bool.not_eq_true'
theorem X4 : type_of% @List.foldl_cons := @List.foldl_cons
theorem X5 : type_of% @List.take_append_of_le_length := @List.take_append_of_le_length
theorem X6 : type_of% @List.filter_eq_nil_iff := @List.filter_eq_nil_iff
theorem X7 : type_of% @List.filter_cons_of_neg := @List.filter_cons_of_neg
theorem X8 : type_of% @Nat.le_mul_of_pos_right := @Nat.le_mul_of_pos_right
theorem X9 : type_of% @Nat.pow_lt_pow_iff_right := @Nat.pow_lt_pow_iff_right
theorem Ya : type_of% @List.pairwise_singleton := @List.pairwise_singleton
theorem Yb : type_of% @Bool.and_eq_false_iff := @Bool.and_eq_false_iff
theorem Yc : type_of% @List.getElem?_replicate := @List.getElem?_replicate
theorem Yd : type_of% @List.mem_or_eq_of_mem_set := @List.mem_or_eq_of_mem_set
theorem Ye : type_of% @Int.natAbs_ediv_le_natAbs := @Int.natAbs_ediv_le_natAbs
def zL0 : List (List (Nat × Option Nat)) := [[(4, none)], [(21, some 0)], [(1, none)], [(23, some 2)], [(22, some 1), (24, some 3)], [(25, some 4)], [(26, some 5)], [(4, none), (27, some 6)], [(28, some 7), (27, some 6)], [(29, some 8), (27, some 6)], [(30, some 9), (27, some 6)], [(27, some 6), (31, some 10)], [(32, some 11)], [(4, none), (33, some 12)], [(34, some 13), (33, some 12)], [(35, some 14), (33, some 12)], [(4, none), (33, some 12)], [(37, some 16), (33, some 12)], [(36, some 15), (38, some 17), (33, some 12)], [(33, some 12), (39, some 18)], [(40, some 19)], [(3, none), (41, some 20)], [(42, some 21), (41, some 20)], [(43, some 22), (41, some 20)], [(1, none), (44, some 23)], [(45, some 24), (44, some 23)], [(3, none), (44, some 23)], [(47, some 26), (44, some 23)], [(46, some 25), (48, some 27), (44, some 23)], [(49, some 28), (44, some 23)], [(50, some 29), (44, some 23)], [(4, none), (44, some 23)], [(52, some 31), (44, some 23)]]
def zL1 : List Nat := [0, 1, 0, 4, 15, 31, 63, 127, 255, 511, 1023, 2047, 4095, 8191, 16383, 32767, 8191, 73727, 262143, 524287, 1048575, 2097151, 4194303, 8388607, 16777215, 33554431, 16777215, 83886079, 268435455, 536870911, 1073741823, 16777215, 2164260863, 8589934591, 17179869183, 34359738367]
def zL2 : List Nat := [14, 53, 54, 55, 56, 57, 58, 59, 60, 61, 62, 63, 64, 65, 66, 67, 68, 69]
theorem Uz {p : Prop} (h : p := by omega) : p := h
theorem UA {p : Prop} (h : p := by decide) : p := h
theorem UB {p : Prop} (h : p := by kernel_rfl) : p := h
theorem IA {P Q : Prop} (p : P) (h : P → Q := by intro k; exact C7 (b := 4294967295) rfl rfl (by first | assumption | omega) (by first | assumption | omega) UA k) : Q := h p
theorem xw {P Q : Prop} (p : P) (h : P → Q := by intro k; exact mg (s := 32) (m := 4294967296) rfl rfl UA UA UA k) : Q := h p
theorem EL {P Q : Prop} (p : P) (h : P → Q := by intro k; exact mg (s := 8) (m := 256) rfl rfl UA UA UA k) : Q := h p
theorem mq {P Q : Prop} (p : P) (h : P → Q := by intro k; exact Cp bk.out bk.out rfl (by first | assumption | omega) UA k) : Q := h p
theorem DQ {P Q : Prop} (p : P) (h : P → Q := by intro k; exact dL (aa (cF (ar (ai (sr (mI (mI k)))))))) : Q := h p
theorem xu {P Q : Prop} (p : P) (h : P → Q := by intro k; exact CI bk.out bk.out rfl Uz Uz UA k) : Q := h p
theorem jK {P Q : Prop} (p : P) (h : P → Q := by intro k; exact kV UA rfl rfl UA k) : Q := h p
theorem qw {P Q : Prop} (p : P) (h : P → Q := by intro k; exact df (k := j) bk.out aM.size rfl rfl Uz Uz UA k) : Q := h p
theorem jL {P Q : Prop} (p : P) (h : P → Q := by intro k; exact bV aM.out rfl ((hr.ext hh.below).ya (by assumption)) UA k) : Q := h p
theorem n9 {P Q : Prop} (p : P) (h : P → Q := by intro k; exact Qn rfl rfl Uz Uz Uz UA k) : Q := h p
theorem Eh {P Q : Prop} (p : P) (h : P → Q := by intro k; exact Q6 rfl rfl (by first | assumption | omega) (by first | assumption | omega) UA k) : Q := h p
theorem Kx {P Q : Prop} (p : P) (h : P → Q := by intro k; exact bQ hh (i := 0) (vs := [_]) rfl rfl (cK rfl) rfl aM.out rfl (by rw [a8, aO]; omega) rfl k) : Q := h p
theorem fV {P Q : Prop} (p : P) (h : P → Q := by intro k; exact aC (bE (ai (ao k)))) : Q := h p
theorem oe {P Q : Prop} (p : P) (h : P → Q := by intro k; exact bh (aa (ah (cF (a9 (aE (aE (bC (ai (sr (mL k))))))))))) : Q := h p
theorem Eg {P Q : Prop} (p : P) (h : P → Q := by intro k; exact cW (aa (cT (sr (aI (aa (av (aH k)))))))) : Q := h p
theorem so {P Q : Prop} (p : P) (h : P → Q := by intro k; exact QH rfl rfl Uz Uz UA k) : Q := h p
theorem H9 {P Q : Prop} (p : P) (h : P → Q := by intro k; exact dL (aa (cT (ar (ai (ah (aq (aq (ah k))))))))) : Q := h p
theorem JZ {P Q : Prop} (p : P) (h : P → Q := by intro k; exact aZ 8 [[(0, none)], [(5, none)], [(28, some 0), (29, some 1)], [(30, some 2)], [(1, none)], [(5, none)], [(32, some 4), (33, some 5)], [(34, some 6)]] [(7, 35), (6, 34), (5, 33), (4, 32), (3, 31), (2, 30), (1, 29), (0, 28)] hh mixed UB k) : Q := h p
theorem A5 {P Q : Prop} (p : P) (h : P → Q := by intro k; exact sM (fun _ hj => (hr.ext hj.hp.below).ya hx3) k) : Q := h p
theorem BW {P Q : Prop} (p : P) (h : P → Q := by intro k; exact sM (fun _ hj => (hs.ext hj.hp.below).ya hy3) k) : Q := h p
theorem JY {P Q : Prop} (p : P) (h : P → Q := by intro k; exact aY (br (ae v35 (ae v34 (ae v33 (ae v32 (ae v31 (ae v30 (ae v29 (ae v28 aX))))))))) k) : Q := h p
theorem Nz {P Q : Prop} (p : P) (h : P → Q := by intro k; exact aZ 8 [[(0, none)], [(5, none)], [(38, some 0), (39, some 1)], [(40, some 2)], [(1, none)], [(5, none)], [(42, some 4), (43, some 5)], [(44, some 6)]] [(7, 45), (6, 44), (5, 43), (4, 42), (3, 41), (2, 40), (1, 39), (0, 38)] hh mixed UB k) : Q := h p
theorem NM {P Q : Prop} (p : P) (h : P → Q := by intro k; exact aY (br (ae v45 (ae v44 (ae v43 (ae v42 (ae v41 (ae v40 (ae v39 (ae v38 aX))))))))) k) : Q := h p
theorem wu {P Q : Prop} (p : P) (h : P → Q := by intro k; exact bh (aa (ah (cT (ar (ai (ah (aq (sr (mI (aI (aa (sr (aI (aa (ah (sr (mI (mL (aJ k)))))))))))))))))))) : Q := h p
theorem IB {P Q : Prop} (p : P) (h : P → Q := by intro k; exact df (k := done.length) bk.out aM.size rfl rfl Uz Uz UA k) : Q := h p
theorem jA {P Q : Prop} (p : P) (h : P → Q := by intro k; exact bV aM.out rfl (hh.gg (i := 0) rfl (by first | assumption | (simp only [U3]; assumption))) UA k) : Q := h p
theorem nX {P Q : Prop} (p : P) (h : P → Q := by intro k; exact o7 (k := done.length) bk.out aM.size rfl rfl Uz Uz UA k) : Q := h p
theorem vV {P Q : Prop} (p : P) (h : P → Q := by intro k; exact bQ hh (i := 0) (vs := [_]) rfl rfl (cK rfl) rfl aM.out rfl (by rw [a8]; simp only [UM, U7]; omega) rfl k) : Q := h p
theorem wR {P Q : Prop} (p : P) (h : P → Q := by intro k; exact aI (aC (bE (ai (ao k))))) : Q := h p
theorem rT {P Q : Prop} (p : P) (h : P → Q := by intro k; exact aL (aa (ah (sr (mL (aJ (mI (aa (aq k))))))))) : Q := h p
theorem eh {P Q : Prop} (p : P) (h : P → Q := by intro k; exact bh (aa (ah (cT (ar (ai (ah (aq (sr (mI k)))))))))) : Q := h p
theorem gD {P Q : Prop} (p : P) (h : P → Q := by intro k; exact cX (k := i) bk.out aM.size rfl rfl Uz Uz UA k) : Q := h p
theorem xx {P Q : Prop} (p : P) (h : P → Q := by intro k; exact cR hh (cs := [_]) bk.out aM.out (aN (cK rfl) bZ) rfl rfl UA UA UA rfl UA k) : Q := h p
theorem sg {P Q : Prop} (p : P) (h : P → Q := by intro k; exact aF (oF a _ ha) al.out rfl UA k) : Q := h p
theorem EB {P Q : Prop} (p : P) (h : P → Q := by intro k; exact aF (oF b _ hb) al.out rfl UA k) : Q := h p
theorem KD {P Q : Prop} (p : P) (h : P → Q := by intro k; exact bD hh (Cm _ _ _ _ _ _ (aU 18446744073709551616 (bN a)) (aU 18446744073709551616 (bN b)) _ (hh.aA (i := 1) rfl) (hh.aA (i := 0) rfl) (jr _) (jr _) (hh.fN (i := 1) rfl) (hh.fN (i := 0) rfl) Uz Uz) rfl k) : Q := h p
theorem E7 {P Q : Prop} (p : P) (h : P → Q := by intro k; exact bh (aa (ah (cF (a9 (aE (aE (bC (ai (sr (aI (aa (av k))))))))))))) : Q := h p
theorem dH {P Q : Prop} (p : P) (h : P → Q := by intro k; exact bh (aa (ah (cT (ar (ai (ah (aq (sr k))))))))) : Q := h p
theorem kK {P Q : Prop} (p : P) (h : P → Q := by intro k; exact aL (aC (bE (ai (ao k))))) : Q := h p
theorem ke {P Q : Prop} (p : P) (h : P → Q := by intro k; exact sk bk.out rfl rfl Uz (by assumption) UA k) : Q := h p
theorem pq {P Q : Prop} (p : P) (h : P → Q := by intro k; exact Mn (eQ rfl (eN (vs := [_, _]) aM.out (hh.cn (i := 0) (n := 2) rfl rfl) rfl) gF) k) : Q := h p
theorem Jc {P Q : Prop} (p : P) (h : P → Q := by intro k; exact aj (N := 13) (l := [.agg #[.bool s, .string m]]) Tryz.func195 rfl rfl (by simp) k) : Q := h p
theorem Fy {P Q : Prop} (p : P) (h : P → Q := by intro k; exact aB (aa (cT (sr (aI (aa (av (cf (aH k))))))))) : Q := h p
theorem DF {P Q : Prop} (p : P) (h : P → Q := by intro k; exact Mv bk.out rfl rfl (by first | rfl | assumption | decide) UA k) : Q := h p
theorem E4 {P Q : Prop} (p : P) (h : P → Q := by intro k; exact aa (cF (ar (ai (ah (sr (bH k))))))) : Q := h p
theorem N3 {P Q : Prop} (p : P) (h : P → Q := by intro k; exact aY (br (ae v14 (ae v13 (ae v12 (ae v11 (ae v10 (ae v9 (ae v8 (ae v7 (ae v6 (ae v5 aX))))))))))) k) : Q := h p
theorem vX {P Q : Prop} (p : P) (h : P → Q := by intro k; exact aa (ah (sr (mL (aJ (mI (aa (aq k)))))))) : Q := h p
theorem ct {P Q : Prop} (p : P) (h : P → Q := by intro k; exact df (k := i) bk.out aM.size rfl rfl Uz Uz UA k) : Q := h p
theorem mM {P Q : Prop} (p : P) (h : P → Q := by intro k; exact bh (aa (ah (cF (a9 (aE (aE (bC (ai (sr k)))))))))) : Q := h p
theorem DU {P Q : Prop} (p : P) (h : P → Q := by intro k; exact cR hh (cs := [_, _, _, _]) bk.out aM.out (aN (gU rfl) (aN (gU rfl) bZ)) rfl rfl UA UA UA rfl UA k) : Q := h p
theorem Fv {P Q : Prop} (p : P) (h : P → Q := by intro k; exact aZ 10 [[(2, none)], [(18, some 0)], [(1, none)], [(20, some 2)], [(19, some 1), (21, some 3)], [(2, none)], [(23, some 5)], [(22, some 4), (24, some 6)], [(25, some 7)], []] [(9, 5), (8, 26), (7, 25), (6, 24), (5, 23), (4, 22), (3, 21), (2, 20), (1, 19), (0, 18)] hh mixed UB k) : Q := h p
theorem Fe {P Q : Prop} (p : P) (h : P → Q := by intro k; exact bz (i := 3) (fun ρ1 w1 hj hR => Jg (show ρ1 20 = Value.int _ _ from hR.1) Uz Uz) k) : Q := h p
theorem EU {P Q : Prop} (p : P) (h : P → Q := by intro k; exact aP (i := 9) (dw _ 63 _) dw.ext (fun ρ1 w1 hj hR => kd aM.out hj.bl (fun v w2 h hb => ⟨hb, h⟩)) k) : Q := h p
theorem D2 {P Q : Prop} (p : P) (h : P → Q := by intro k; exact aY (br (ae e5 (ae v26 (ae v25 (ae v24 (ae v23 (ae v22 (ae v21 (ae v20 (ae v19 (ae v18 aX))))))))))) k) : Q := h p
theorem Ip {P Q : Prop} (p : P) (h : P → Q := by intro k; exact aj (N := 47) (l := [.agg #[.bool true, .string a], .int .i64 (-(m : Int))]) Tryz.func197 rfl rfl (by simp) k) : Q := h p
theorem vh {P Q : Prop} (p : P) (h : P → Q := by intro k; exact aa (cF (ar (ai (sr k))))) : Q := h p
theorem II {P Q : Prop} (p : P) (h : P → Q := by intro k; exact aj (N := 41) (l := [.agg #[.bool a.neg, .string a.bA, .int .i64 a.e], .agg #[.bool b.neg, .string b.bA, .int .i64 b.e]]) Tryz.func136 rfl rfl (by simp) k) : Q := h p
theorem IP {P Q : Prop} (p : P) (h : P → Q := by intro k; exact aZ 3 [[(2, none)], [(7, some 0)], [(3, none)]] [(2, 9), (1, 8), (0, 7)] hh mixed UB k) : Q := h p
theorem I3 {P Q : Prop} (p : P) (h : P → Q := by intro k; exact dC (fun _ hj => eC a _ (hT.hp hj.hp) Uz Uz Uz) k) : Q := h p
theorem OR {P Q : Prop} (p : P) (h : P → Q := by intro k; exact aj (N := 28) (l := [.agg #[.bool a.neg, .string a.bA, .int .i64 a.e], .agg #[.bool b.neg, .string b.bA, .int .i64 b.e]]) Tryz.func184 rfl rfl (by simp) k) : Q := h p
theorem wV {P Q : Prop} (p : P) (h : P → Q := by intro k; exact dk (aa (cF (ar (ai (sr k)))))) : Q := h p
theorem D4 {P Q : Prop} (p : P) (h : P → Q := by intro k; exact cw (vs := [_, _, _]) aM.out rfl (((hr.ext hh.below).recAt NR.len hx)) rfl UA k) : Q := h p
theorem xr {P Q : Prop} (p : P) (h : P → Q := by intro k; exact cR hh (cs := [_, _, _, _, _, _]) bk.out aM.out (aN (gU rfl) (aN (gU rfl) bZ)) rfl rfl UA UA UA rfl UA k) : Q := h p
theorem AA {P Q : Prop} (p : P) (h : P → Q := by intro k; exact bD hh (jW 1 _ (hT.hp hh) Uz Uz) rfl k) : Q := h p
theorem DE {P Q : Prop} (p : P) (h : P → Q := by intro k; exact df (k := 0) bk.out aM.size rfl rfl Uz Uz UA k) : Q := h p
theorem iL {P Q : Prop} (p : P) (h : P → Q := by intro k; exact qY (by first | exact sY rfl | exact sZ rfl) UA k) : Q := h p
theorem zi {P Q : Prop} (p : P) (h : P → Q := by intro k; exact aa (cF (ar (bE (ai (ao k)))))) : Q := h p
theorem IV {P Q : Prop} (p : P) (h : P → Q := by intro k; exact C7 (b := 1) rfl rfl (by first | assumption | omega) (by first | assumption | omega) UA k) : Q := h p
theorem qi {P Q : Prop} (p : P) (h : P → Q := by intro k; exact cH hh (i := 1) rfl rfl rfl (hh.aA (i := 0) rfl) bk.out aM.out rfl UA (by first | rfl | exact dz _ | exact dh _ | exact bT _ | exact ck NR.one _) Uz Uz UA k) : Q := h p
theorem vR {P Q : Prop} (p : P) (h : P → Q := by intro k; exact aL (aC (bE (ai (ao (mI k)))))) : Q := h p
theorem HS {P Q : Prop} (p : P) (h : P → Q := by intro k; exact dL (aa (cT (ar (ai (ah (aq (ah (sr (mL (mI k))))))))))) : Q := h p
theorem y8 {P Q : Prop} (p : P) (h : P → Q := by intro k; exact bD hh (ja A n c j xs _ (hx.ext hh.below) hdx Uz Uz) rfl k) : Q := h p
theorem BA {P Q : Prop} (p : P) (h : P → Q := by intro k; exact bD hh (ja B m c' j ys _ (hy.ext hh.below) hdy Uz Uz) rfl k) : Q := h p
theorem rR {P Q : Prop} (p : P) (h : P → Q := by intro k; exact bh (aa (cT (ar (ai (ah (aq (sr (mL (mI k)))))))))) : Q := h p
theorem Ir {P Q : Prop} (p : P) (h : P → Q := by intro k; exact gu (n := n) hh rfl rfl Uz Uz bk.out aM.out rfl Uz Uz UA k) : Q := h p
theorem HQ {P Q : Prop} (p : P) (h : P → Q := by intro k; exact bQ hh (i := 0) (vs := [_]) rfl rfl (cK rfl) rfl aM.out rfl (by rw [hll]; omega) rfl k) : Q := h p
theorem Ei {P Q : Prop} (p : P) (h : P → Q := by intro k; exact aF (fa a _ ha) al.out rfl UA k) : Q := h p
theorem Kr {P Q : Prop} (p : P) (h : P → Q := by intro k; exact bh (aa (cT (ar (ai (ah (aq (ao (mL (mL (mI k))))))))))) : Q := h p
theorem Kc {P Q : Prop} (p : P) (h : P → Q := by intro k; exact bD hh (il _ _ _ (aU 2 (bN m)) _ (hh.aA (i := 0) rfl) (k8 _) (hh.fN (i := 0) rfl) Uz) rfl k) : Q := h p
theorem AW {P Q : Prop} (p : P) (h : P → Q := by intro k; exact Mn (eQ rfl (eN (vs := [_, _]) aM.out (hh.cn (i := 1) (n := 2) rfl rfl) rfl) gF) k) : Q := h p
theorem zQ {P Q : Prop} (p : P) (h : P → Q := by intro k; exact aa (cT (sr (aI (aa (av (aH k))))))) : Q := h p
theorem Fj {P Q : Prop} (p : P) (h : P → Q := by intro k; exact aa (cF (ar (ai (sr (aI (aa (av k)))))))) : Q := h p
theorem wW {P Q : Prop} (p : P) (h : P → Q := by intro k; exact aa (cF (ar (ai (sr (bH k)))))) : Q := h p
theorem KL {P Q : Prop} (p : P) (h : P → Q := by intro k; exact Mn (eQ rfl (eN (vs := [_, _, _]) aM.out (hh.cn (i := 0) (n := 3) rfl rfl) rfl) gF) k) : Q := h p
theorem u3 {P Q : Prop} (p : P) (h : P → Q := by intro k; exact aI (aa (ah (aq (sr (bH k)))))) : Q := h p
theorem wa {P Q : Prop} (p : P) (h : P → Q := by intro k; exact cq (mB (gT (mL (gT (aJ (gT k))))))) : Q := h p
theorem JG {P Q : Prop} (p : P) (h : P → Q := by intro k; exact aZ 7 [[(2, none)], [(0, none)], [(26, some 1)], [(27, some 2)], [(1, none)], [(29, some 4)], [(30, some 5)]] [(6, 31), (5, 30), (4, 29), (3, 28), (2, 27), (1, 26), (0, 25)] hh mixed UB k) : Q := h p
theorem Ko {P Q : Prop} (p : P) (h : P → Q := by intro k; exact aY (br (ae v31 (ae v30 (ae v29 (ae v28 (ae v27 (ae v26 (ae v25 aX)))))))) k) : Q := h p
theorem KT {P Q : Prop} (p : P) (h : P → Q := by intro k; exact cw (vs := [_, _, _, _]) aM.out rfl ((hr.ext hh.below).recAt TR.len hxx) rfl UA k) : Q := h p
theorem Bj {P Q : Prop} (p : P) (h : P → Q := by intro k; exact cR hh (cs := [_, _, _, _]) bk.out aM.out (aN (gU rfl) bZ) rfl rfl UA UA UA rfl UA k) : Q := h p
theorem Iz {P Q : Prop} (p : P) (h : P → Q := by intro k; exact cw (vs := [_, _, _, _]) aM.out rfl ((hr2.ext hh.below).recAt TR.len hyy) rfl UA k) : Q := h p
theorem zX {P Q : Prop} (p : P) (h : P → Q := by intro k; exact sr (aI (aa (ah (sr (mL (aJ (mI (aa (aq k)))))))))) : Q := h p
theorem si {P Q : Prop} (p : P) (h : P → Q := by intro k; exact bh (aa (ah (cT (ar (ai (ah (aq (sr (mI (aI (aa (sr k))))))))))))) : Q := h p
theorem k7 {P Q : Prop} (p : P) (h : P → Q := by intro k; exact cX (k := j) bk.out aM.size rfl rfl Uz Uz UA k) : Q := h p
theorem uk {P Q : Prop} (p : P) (h : P → Q := by intro k; exact aa (cF (ar (bE (ai (ao (mI k))))))) : Q := h p
theorem zI {P Q : Prop} (p : P) (h : P → Q := by intro k; exact QZ (eQ rfl (eN (vs := [_, _]) aM.out (hh.cn (i := 0) (n := 2) rfl rfl) rfl) (kj (lI rfl) gF)) k) : Q := h p
theorem DN {P Q : Prop} (p : P) (h : P → Q := by intro k; exact QZ (eQ rfl (eN (vs := [_, _]) aM.out (hh.cn (i := 1) (n := 2) rfl rfl) rfl) (kj (lI rfl) gF)) k) : Q := h p
theorem um {P Q : Prop} (p : P) (h : P → Q := by intro k; exact Ar bk.out aM.size rfl rfl Uz Uz UA k) : Q := h p
theorem HD {P Q : Prop} (p : P) (h : P → Q := by intro k; exact aj (N := 45) (l := [.string a, .string b, .func (.func g) #[] #[]]) Tryz.func206 rfl rfl (by simp) k) : Q := h p
theorem u1 {P Q : Prop} (p : P) (h : P → Q := by intro k; exact cX bk.out aM.size rfl rfl rfl Uz UA k) : Q := h p
theorem Jv {P Q : Prop} (p : P) (h : P → Q := by intro k; exact bV aM.out rfl (hh.gg (i := 1) rfl (by first | assumption | (simp only [U3]; assumption))) UA k) : Q := h p
theorem JR {P Q : Prop} (p : P) (h : P → Q := by intro k; exact aj (N := 58) (l := [.agg #[.int .i64 v, .slice A n c]]) Tryz.func142 rfl rfl (by simp) k) : Q := h p
theorem pg {P Q : Prop} (p : P) (h : P → Q := by intro k; exact cw (vs := [_, _, _, _]) aM.out rfl ((hr.ext hh.below).recAt TR.len hx) rfl UA k) : Q := h p
theorem zt {P Q : Prop} (p : P) (h : P → Q := by intro k; exact lV (i := 9) rfl (fun ρ1 w1 hj hR => (show ρ1 27 = Value.bool _ from hR.2.1)) (fun ρ1 w1 hj hR => aK al.out (aw (show ρ1 29 = Value.agg (List.toArray _) from hR.1) aW)) (fun w1 hj => hsg _) k) : Q := h p
theorem EJ {P Q : Prop} (p : P) (h : P → Q := by intro k; exact lV (i := 15) rfl (fun ρ1 w1 hj hR => (show ρ1 33 = Value.bool _ from hR.2.1)) (fun ρ1 w1 hj hR => aK al.out (aw (show ρ1 35 = Value.agg (List.toArray _) from hR.1) aW)) (fun w1 hj => hfo _ (hT.hp hj.hp)) k) : Q := h p
theorem Kb {P Q : Prop} (p : P) (h : P → Q := by intro k; exact yc (i := 18) rfl (fun ρ1 w1 hj hR => (show ρ1 33 = Value.bool _ from hR.2.2.1)) (fun ρ1 w1 hj hR => Fw (show ρ1 36 = Value.agg (List.toArray _) from hR.1) (show ρ1 38 = Value.agg (List.toArray _) from hR.2.1) (by first | assumption | rfl)) k) : Q := h p
theorem ED {P Q : Prop} (p : P) (h : P → Q := by intro k; exact aY (br (ae v53 (ae v52 (ae v51 (ae v50 (ae v49 (ae v48 (ae v47 (ae v46 (ae v45 (ae v44 (ae v43 (ae v42 (ae v41 (ae v40 (ae v39 (ae v38 (ae v37 (ae v36 (ae v35 (ae v34 (ae v33 (ae v32 (ae v31 (ae v30 (ae v29 (ae v28 (ae v27 (ae v26 (ae v25 (ae v24 (ae v23 (ae v22 (ae v21 aX)))))))))))))))))))))))))))))))))) k) : Q := h p
theorem Fp {P Q : Prop} (p : P) (h : P → Q := by intro k; exact aj (N := 25) (l := [.int .i64 v, .slice A n c]) Tryz.func72 rfl rfl (by simp) k) : Q := h p
theorem xy {P Q : Prop} (p : P) (h : P → Q := by intro k; exact tY rfl (aw (Dd rfl) aW) UA k) : Q := h p
theorem NB {P Q : Prop} (p : P) (h : P → Q := by intro k; exact aZ 6 [[(2, none)], [(4, some 0)], [(1, none)], [(6, some 2)], [(7, some 3)], [(8, some 4)]] [(5, 9), (4, 8), (3, 7), (2, 6), (1, 5), (0, 4)] hh mixed UB k) : Q := h p
theorem I6 {P Q : Prop} (p : P) (h : P → Q := by intro k; exact cw (vs := [_, _]) aM.out rfl ((hr.ext hh.below).recAt PX.len hx) rfl UA k) : Q := h p
theorem JT {P Q : Prop} (p : P) (h : P → Q := by intro k; exact bh (aa (ah (cF (a9 (aE (aE (bC (ai (ah (sr k))))))))))) : Q := h p
theorem tC {P Q : Prop} (p : P) (h : P → Q := by intro k; exact bV aM.out rfl ((hr.ext hh.below).ya hgi) UA k) : Q := h p
theorem wv {P Q : Prop} (p : P) (h : P → Q := by intro k; exact aj (N := 29) (l := [.agg #[.slice A n c, .slice B m c2]]) Tryz.func41 rfl rfl (by simp) k) : Q := h p
theorem DJ {P Q : Prop} (p : P) (h : P → Q := by intro k; exact bD hh (ez A n c ds _ (hS.ext hh.below) hn) rfl k) : Q := h p
theorem Kf {P Q : Prop} (p : P) (h : P → Q := by intro k; exact aZ 6 [[(1, none)], [(19, some 0)], [(20, some 1)], [(1, none)], [(22, some 3)], [(23, some 4)]] [(5, 24), (4, 23), (3, 22), (2, 21), (1, 20), (0, 19)] hh mixed UB k) : Q := h p
theorem Kg {P Q : Prop} (p : P) (h : P → Q := by intro k; exact aY (br (ae v24 (ae v23 (ae v22 (ae v21 (ae v20 (ae v19 aX))))))) k) : Q := h p
theorem sw {P Q : Prop} (p : P) (h : P → Q := by intro k; exact cR hh (cs := [_, _, _]) bk.out aM.out (aN (gU rfl) bZ) rfl rfl UA UA UA rfl UA k) : Q := h p
theorem Bs {P Q : Prop} (p : P) (h : P → Q := by intro k; exact bh (aa (ah (cF (a9 (aE (aE (bC (bE (ai (ao k))))))))))) : Q := h p
theorem pe {P Q : Prop} (p : P) (h : P → Q := by intro k; exact xZ eX.out rfl UA k) : Q := h p
theorem eA {P Q : Prop} (p : P) (h : P → Q := by intro k; exact bD hh (hck _ (hT.hp hh) hh.below) rfl k) : Q := h p
theorem Jd {P Q : Prop} (p : P) (h : P → Q := by intro k; exact cw (vs := [_, _, _, _, _, _]) aM.out rfl ((hr.ext hh.below).recAt SR.len hs) rfl UA k) : Q := h p
theorem NH {P Q : Prop} (p : P) (h : P → Q := by intro k; exact cR hh (cs := [_, _, _, _, _, _]) bk.out aM.out (aN (gU rfl) bZ) rfl rfl UA UA UA rfl UA k) : Q := h p
theorem NL {P Q : Prop} (p : P) (h : P → Q := by intro k; exact cH hh (i := 2) rfl rfl rfl (hh.aA (i := 0) rfl) bk.out aM.out rfl UA (by first | rfl | exact dz _ | exact dh _ | exact bT _ | exact ck NR.one _) Uz Uz UA k) : Q := h p
theorem y9 {P Q : Prop} (p : P) (h : P → Q := by intro k; exact aj (N := 58) (l := [.agg #[.int .i64 p.v, .slice p.A p.n p.c], .slice L n c, .slice M m mc]) Tryz.func87 rfl rfl (by simp) k) : Q := h p
theorem uV {P Q : Prop} (p : P) (h : P → Q := by intro k; exact dk (aa (cF (ar (ai (ah (sr (mL k)))))))) : Q := h p
theorem sa {P Q : Prop} (p : P) (h : P → Q := by intro k; exact dk (aa (cF (ar (ai (ah (sr (mL (aJ (bH k)))))))))) : Q := h p
theorem Au {P Q : Prop} (p : P) (h : P → Q := by intro k; exact bV aM.out rfl ((hr.ext hh.below).ya hy2) UA k) : Q := h p
theorem Er {P Q : Prop} (p : P) (h : P → Q := by intro k; exact aa (cT (sr (aI (aa (av (cf (aH (aH (cf (aH k))))))))))) : Q := h p
theorem Ox {P Q : Prop} (p : P) (h : P → Q := by intro k; exact cH hh (i := 3) rfl rfl rfl (hh.aA (i := 0) rfl) bk.out aM.out rfl UA (by first | rfl | exact dz _ | exact dh _ | exact bT _ | exact ck NR.one _) Uz Uz UA k) : Q := h p
theorem HZ {P Q : Prop} (p : P) (h : P → Q := by intro k; exact QZ (eQ rfl (eN (vs := [_, _]) aM.out (hh.cn (i := 3) (n := 2) rfl rfl) rfl) (kj (lI rfl) gF)) k) : Q := h p
theorem HH {P Q : Prop} (p : P) (h : P → Q := by intro k; exact bh (aa (ah (cF (a9 (aE (aE (bC (ai (sr (bH k))))))))))) : Q := h p
theorem pw {P Q : Prop} (p : P) (h : P → Q := by intro k; exact QZ (eQ rfl (eN (vs := [_, _]) aM.out (hh.cn (i := 2) (n := 2) rfl rfl) rfl) (kj (lI rfl) gF)) k) : Q := h p
theorem zz {P Q : Prop} (p : P) (h : P → Q := by intro k; exact sr (aB (aa (ah (sr (mL (aJ (mL (aJ k))))))))) : Q := h p
theorem KS {P Q : Prop} (p : P) (h : P → Q := by intro k; exact dk (aa (cF (ar (ai (ah (sr (aI (aa (aq k)))))))))) : Q := h p
theorem wC {P Q : Prop} (p : P) (h : P → Q := by intro k; exact bh (aa (cT (ar (ai (ah (aq (ah k)))))))) : Q := h p
theorem zk {P Q : Prop} (p : P) (h : P → Q := by intro k; exact aZ 8 [[(0, none)], [(5, none)], [(17, some 0), (18, some 1)], [(19, some 2)], [(1, none)], [(5, none)], [(21, some 4), (22, some 5)], [(23, some 6)]] [(7, 24), (6, 23), (5, 22), (4, 21), (3, 20), (2, 19), (1, 18), (0, 17)] hh mixed UB k) : Q := h p
theorem NU {P Q : Prop} (p : P) (h : P → Q := by intro k; exact bz (i := 2) (fun ρ1 w1 hj hR => dA bk.out aM.size (show ρ1 17 = Value.slice _ _ _ from hR.1) (show ρ1 18 = Value.int _ _ from hR.2.1) Uz Uz) k) : Q := h p
theorem O1 {P Q : Prop} (p : P) (h : P → Q := by intro k; exact bz (i := 6) (fun ρ1 w1 hj hR => dA bk.out aM.size (show ρ1 21 = Value.slice _ _ _ from hR.1) (show ρ1 22 = Value.int _ _ from hR.2.1) Uz Uz) k) : Q := h p
theorem zK {P Q : Prop} (p : P) (h : P → Q := by intro k; exact aY (br (ae v24 (ae v23 (ae v22 (ae v21 (ae v20 (ae v19 (ae v18 (ae v17 aX))))))))) k) : Q := h p
theorem AQ {P Q : Prop} (p : P) (h : P → Q := by intro k; exact bh (aa (cF (a9 (aE (aE (bC (ai (sr (aB (aa (av k)))))))))))) : Q := h p
theorem DL {P Q : Prop} (p : P) (h : P → Q := by intro k; exact aj (N := 34) (l := [.int .i64 v, .int .i64 x]) Tryz.func117 rfl rfl (by simp) k) : Q := h p
theorem Ok {P Q : Prop} (p : P) (h : P → Q := by intro k; exact aj (N := 17) (l := [.agg #[.int .i64 p.v, .slice p.A p.n p.c], .agg #[.int .i64 q.v, .slice q.A q.n q.c]]) Tryz.func15 rfl rfl (by simp) k) : Q := h p
theorem O4 {P Q : Prop} (p : P) (h : P → Q := by intro k; exact aj (N := 42) (l := [.agg #[.int .i64 p.v, .slice p.A p.n p.c], .agg #[.bool c.neg, .string c.bA, .int .i64 c.e]]) Tryz.func53 rfl rfl (by simp) k) : Q := h p
theorem DS {P Q : Prop} (p : P) (h : P → Q := by intro k; exact aj (N := 19) (l := [.agg #[.int .i64 p.v, .slice p.A p.n p.c], .int .i64 i]) Tryz.func71 rfl rfl (by simp) k) : Q := h p
theorem xe {P Q : Prop} (p : P) (h : P → Q := by intro k; exact dk (aa (cF (ar (ai (ah (sr (mI k)))))))) : Q := h p
theorem FJ {P Q : Prop} (p : P) (h : P → Q := by intro k; exact bV aM.out rfl (hh.dN (i := 0) rfl (by first | assumption | (simp only [U3]; assumption))) UA k) : Q := h p
theorem KQ {P Q : Prop} (p : P) (h : P → Q := by intro k; exact bV aM.out rfl (((hr.ext hh.below).recAt TR.len hx).cell (i := 0) rfl) UA k) : Q := h p
theorem OV {P Q : Prop} (p : P) (h : P → Q := by intro k; exact aZ 8 [[(0, none)], [(5, none)], [(13, some 0), (14, some 1)], [(15, some 2)], [(1, none)], [(5, none)], [(17, some 4), (18, some 5)], [(19, some 6)]] [(7, 20), (6, 19), (5, 18), (4, 17), (3, 16), (2, 15), (1, 14), (0, 13)] hh mixed UB k) : Q := h p
theorem OO {P Q : Prop} (p : P) (h : P → Q := by intro k; exact bz (i := 2) (fun ρ1 w1 hj hR => oU bk.out aM.size (show ρ1 13 = Value.slice _ _ _ from hR.1) (show ρ1 14 = Value.int _ _ from hR.2.1) rfl Uz) k) : Q := h p
theorem Nx {P Q : Prop} (p : P) (h : P → Q := by intro k; exact bz (i := 3) (fun ρ1 w1 hj hR => jN aM.out (show ρ1 15 = Value.pointer _ from hR.1) (hj.hp.gg (i := 0) rfl (by rw [U3]; exact hx2))) k) : Q := h p
theorem NX {P Q : Prop} (p : P) (h : P → Q := by intro k; exact bz (i := 6) (fun ρ1 w1 hj hR => dA bk.out aM.size (show ρ1 17 = Value.slice _ _ _ from hR.1) (show ρ1 18 = Value.int _ _ from hR.2.1) Uz Uz) k) : Q := h p
theorem OK {P Q : Prop} (p : P) (h : P → Q := by intro k; exact aY (br (ae v20 (ae v19 (ae v18 (ae v17 (ae v16 (ae v15 (ae v14 (ae v13 aX))))))))) k) : Q := h p
theorem IH {P Q : Prop} (p : P) (h : P → Q := by intro k; exact cw (vs := [_, _, _]) aM.out rfl ((hr.ext hh.below).recAt NR.len hxn) rfl UA k) : Q := h p
theorem Oz {P Q : Prop} (p : P) (h : P → Q := by intro k; exact cw (vs := [_, _, _]) aM.out rfl (hh.iF (f := NR.cells) (x := nR (nD (bin (d - i) j))) (l := lz (d - i)) (i := 0) rfl NR.len UA hbn) rfl UA k) : Q := h p
theorem DM {P Q : Prop} (p : P) (h : P → Q := by intro k; exact aj (N := 20) (l := [.agg #[.slice fx.A fx.n fx.a, .slice fx.B fx.m fx.b], .int .i64 ax]) Tryz.func144 rfl rfl (by simp) k) : Q := h p
theorem Og {P Q : Prop} (p : P) (h : P → Q := by intro k; exact aZ 6 [[(8, none)], [(3, none)], [(21, some 1)], [(20, some 0), (22, some 2)], [(3, none)], [(24, some 4)]] [(5, 25), (4, 24), (3, 23), (2, 22), (1, 21), (0, 20)] hh mixed UB k) : Q := h p
theorem Pa {P Q : Prop} (p : P) (h : P → Q := by intro k; exact bz (i := 3) (fun ρ1 w1 hj hR => qE (show ρ1 20 = Value.int _ _ from hR.1) (show ρ1 22 = Value.int _ _ from hR.2.1) Uz Uz Uz) k) : Q := h p
theorem OI {P Q : Prop} (p : P) (h : P → Q := by intro k; exact cw (vs := [_, _, _]) aM.out rfl (hh.iF (f := NR.cells) (x := nR x) (l := Y.map nR) (i := 1) rfl NR.len UA hxn) rfl UA k) : Q := h p
theorem ON {P Q : Prop} (p : P) (h : P → Q := by intro k; exact aZ 12 [[(9, none)], [(7, none)], [(58, some 1)], [(57, some 0), (59, some 2)], [(7, none)], [(61, some 4)], [(60, some 3), (62, some 5)], [(2, none)], [(64, some 7)], [(1, none)], [(65, some 8), (66, some 9)], [(67, some 10)]] [(11, 68), (10, 67), (9, 66), (8, 65), (7, 64), (6, 63), (5, 62), (4, 61), (3, 60), (2, 59), (1, 58), (0, 57)] hh mixed UB k) : Q := h p
theorem Oh {P Q : Prop} (p : P) (h : P → Q := by intro k; exact bz (i := 3) (fun ρ1 w1 hj hR => qE (show ρ1 57 = Value.int _ _ from hR.1) (show ρ1 59 = Value.int _ _ from hR.2.1) Uz Uz Uz) k) : Q := h p
theorem OS {P Q : Prop} (p : P) (h : P → Q := by intro k; exact bz (i := 6) (fun ρ1 w1 hj hR => oM (show ρ1 60 = Value.int _ _ from hR.1) (show ρ1 62 = Value.int _ _ from hR.2.1) Uz Uz) k) : Q := h p
theorem N2 {P Q : Prop} (p : P) (h : P → Q := by intro k; exact aY (br (ae v68 (ae v67 (ae v66 (ae v65 (ae v64 (ae v63 (ae v62 (ae v61 (ae v60 (ae v59 (ae v58 (ae v57 aX))))))))))))) k) : Q := h p
theorem Fl {P Q : Prop} (p : P) (h : P → Q := by intro k; exact aj (N := 165) (l := [.agg #[.slice fx.A fx.n fx.a, .slice fx.B fx.m fx.b], .slice L n c]) Tryz.func37 rfl rfl (by simp) k) : Q := h p
theorem Jl {P Q : Prop} (p : P) (h : P → Q := by intro k; exact Gu (N := 58) (l := [.agg #[.slice fx.A fx.n fx.a, .slice fx.B fx.m fx.b], .slice L m2 c2]) Tryz.func39 rfl rfl (by simp) k) : Q := h p
theorem D7 {P Q : Prop} (p : P) (h : P → Q := by intro k; exact aj (N := 18) (l := [.agg #[.bool a.neg, .string a.bA, .int .i64 a.e]]) Tryz.func43 rfl rfl (by simp) k) : Q := h p
theorem IM {P Q : Prop} (p : P) (h : P → Q := by intro k; exact aj (N := 46) (l := [.slice A n c, .slice B m d]) Tryz.func27 rfl rfl (by simp) k) : Q := h p
theorem KM {P Q : Prop} (p : P) (h : P → Q := by intro k; exact bh (aa (ah (cF (a9 (aE (aE (bC (ai (sr (mL (aL (aa (av k)))))))))))))) : Q := h p
theorem OH {p : Prop} (h : p := by
  refine ⟨⟨i + 1, Uz, rfl, hh⟩, by show (n - m / 64) - (i + 1) < (n - m / 64) - i; omega, ?_⟩;exact dQ) : p := h
theorem NY {p : Prop} (h : p := by
  refine aa (sr (mI ?_));refine bo (mL (aJ ?_));refine bh (mB ?_);refine gS (gS (gS ?_));refine eV ?_;exact N6) : p := h
theorem Nw {p : Prop} (h : p := by
  refine fF ?_;refine fQ (i := 2) UB rfl ?_;refine bX hh 3 [_,_] ?_;intro ws hh;replace hh : Hp _ (_ :: _ :: _ :: .blk _ _ [_, _] _ :: _) _ := hh;exact Ol) : p := h
theorem OD {p : Prop} (h : p := by
  refine aF (hpu _ (hT.hp hh) hh.below) al.out rfl UA ?_;rintro e_ w51 ⟨g, og, rfl, h3⟩;refine ⟨_, rfl, ?_⟩;replace hh := hh.join h3;simp only [UP, UN] at hh;refine dt ?_;refine dt ?_;exact NQ) : p := h
theorem Ot {p : Prop} (h : p := by
  refine cX (k := (i + j)) bk.out aM.size rfl rfl Uz Uz UA ?_;refine bQ hh (i := 3) (vs := [_, _, _]) rfl rfl (gU rfl) rfl aM.out rfl Uz rfl ?_;intro ws hh;simp only [UU, Vp] at hh;rw [show cm (az NR.cells (S.map nR)) ((i + j) * 3) [.bool (nR (o + y)).neg, .string (nR (o + y)).bA, .int .i64 (nR (o + y)).e] = az NR.cells ((S.map nR).set (i + j) (nR (o + y))) from ju NR.len Uz, ← WT, hset] at hh;refine fV ?_;refine bo (mI (aC (ai ?_)));replace hh := hh.sub (UL _ (UG _ (UG _ (UG _ Ve))));refine ⟨⟨j + 1, Uz, rfl, hh⟩, by show d - i + 1 - (j + 1) < d - i + 1 - j; omega, ?_⟩;exact dQ) : p := h
theorem Oc {p : Prop} (h : p := by
  refine rI bk.out bk.out bk.out rfl (hh.aA (i := 0) rfl) UA ?_;exact FZ) : p := h
theorem NC {p : Prop} (h : p := by
  refine ⟨⟨i + 1, _, Uz, rfl, hS3.symm, hh⟩, by show n - (i + 1) < n - i; omega, ?_⟩;exact dQ) : p := h
theorem KE {p : Prop} (h : p := by
  exact ⟨none, 0, rfl, World.ownsRow_nil _ _ _ _, hh.below⟩) : p := h
theorem NJ {p : Prop} (h : p := by
  refine aI (aa (sr (mI ?_)));refine dk (aa (cT (sr ?_)));refine gH [_,_] (mI ?_);exact RW) : p := h
theorem NZ {p : Prop} (h : p := by
  refine aa (cT (sr (aB (aa (av (aH (cf (aH (aH (cf (aH ?_)))))))))));exact Ax) : p := h
theorem On {p : Prop} (h : p := by
  refine pq ?_;exact ⟨rfl, hh.below⟩) : p := h
theorem O0 {p : Prop} (h : p := by
  refine AW ?_;exact ⟨rfl, hh.below⟩) : p := h
theorem Oq {p : Prop} (h : p := by
  refine KL ?_;exact ⟨rfl, hh.below⟩) : p := h
theorem NF {p : Prop} (h : p := by
  refine ⟨⟨i, _, _, Uz, rfl, by rw [d1]; rfl, by rw [d1]; exact hh⟩, by show ((i : Int) - 1 + 1).toNat < ((i : Int) + 1).toNat; omega, ?_⟩;exact dQ) : p := h
theorem O7 {p : Prop} (h : p := by
  refine oK ?_;refine dS (dS (dS (dS (dS ?_))));refine xL (i := 18) rfl (fun ρ1 w1 hj hR => (show ρ1 33 = Value.bool _ from hR.2.2.1)) UA ?_;refine Gj ?_;exact TI) : p := h
theorem O3 {p : Prop} (h : p := by
  refine fF ?_;refine fQ (i := 2) UB rfl ?_;refine bX hh 4 [_,_] ?_;intro ws hh;replace hh : Hp _ (_ :: _ :: _ :: _ :: .blk _ _ [_, _] _ :: _) _ := hh;exact SI) : p := h
theorem Ny {p : Prop} (h : p := by
  refine sr ?_;refine cz hh [_,_] ?_;intro b2 w2 hh;refine aI (aa (ah (sr ?_)));refine cE hh 0 [_,_] ?_;refine eA ?_;intro w7 hh;exact Qt) : p := h
theorem Ks {p : Prop} (h : p := by
  refine aa (cT (sr (aB (aa (av (cf (aH (aH (cf (aH ?_))))))))));exact Ax) : p := h
theorem OB {p : Prop} (h : p := by
  refine aj (N := 9) (l := [.int .i64 v]) Tryz.func134 rfl rfl (by simp) ?_;refine sr (aB (aa (sr (mI ?_))));refine dL (mB (gT (mI (gT ?_))));refine Qk ?_;refine fO ?_;exact vy) : p := h
theorem Ep {p : Prop} (h : p := by
  refine dL (aB (aa (av ?_)));refine de ?_;exact ⟨rfl, hh.below⟩) : p := h
theorem NA {p : Prop} (h : p := by
  refine mB ?_;refine gS (gS ?_);refine jK ?_;refine gS (gS (gS ?_));refine eV ?_;refine vh ?_;refine cE hh 0 [_,_] ?_;exact J8) : p := h
theorem N4 {p : Prop} (h : p := by
  refine mB ?_;refine gS ?_;refine jK ?_;refine jK ?_;refine gS ?_;refine eV ?_;refine aB (aa (av ?_));exact Ax) : p := h
theorem Ov {p : Prop} (h : p := by
  have hik : i = k := by
   rcases Vv i k with h | h
   ·exact absurd ⟨i, h, h2, h3⟩ hex
   ·omega
  subst hik;refine ⟨i, h2, h3, fun j hj => ?_⟩
  cases hc2 : L.getD j false with
  | true => rfl
  | false => exact absurd ⟨j, hj, Uz, hc2⟩ hex) : p := h
theorem NW {p : Prop} (h : p := by
  have h1 : L.toList.countP (fun b => b) = L.toList.length := by
   have := hI.ls; simp only [Array.length_toList]; omega
  have h2 := List.countP_eq_length.1 h1;have h3 : i < L.size := by rw [hI.ls, hnn]; exact hi
  have := h2 L[i] (by simp);simpa [h3] using this) : p := h
theorem IK {p : Prop} (h : p := by
  refine ⟨⟨i + 1, Uz, rfl, hh⟩, by show n - (i + 1) < n - i; omega, ?_⟩;exact dQ) : p := h
theorem OA {p : Prop} (h : p := by
  refine bX hh 1 [_,_] ?_;intro ws hh;replace hh : Hp _ (_ :: .blk _ _ [_, _] _ :: _) _ := hh;refine fV ?_;refine bo (mI (aC (ai ?_)));replace hh := hh.sub (Vs _ _);refine ⟨⟨i + 1, _, _, Uz, rfl, hS3.symm, hpl, by unfold IR.v at hba ⊢; omega, hh⟩, by show n - (i + 1) < n - i; omega, ?_⟩;exact dQ) : p := h
theorem EH {p : Prop} (h : p := by
  refine bX hh 0 [_,_] ?_;intro ws hh;replace hh : Hp _ (.blk _ _ [_, _] _ :: _) _ := hh;refine aa (av (aH ?_));exact SY) : p := h
theorem E8 {p : Prop} (h : p := by
  refine bX hh 1 [_,_] ?_;intro ws hh;replace hh : Hp _ (_ :: .blk _ _ [_, _] _ :: _) _ := hh;refine aI (aa (av ?_));exact QC) : p := h
theorem Ob {p : Prop} (h : p := by
  obtain rfl : j = d - i + 1 := Uz;rw [Gr Uz] at hh;refine sr ?_;refine Bs ?_;refine bo (mI (aC (ai ?_)));replace hh := hh.sub (UL _ (UL _ (UG _ Ve)));refine ⟨⟨i + 1, Uz, rfl, hh⟩, by show n - (i + 1) < n - i; omega, ?_⟩;exact dQ) : p := h
theorem N6 {p : Prop} (h : p := by
  refine zi ?_;refine bo (mI (aC (ai ?_)));rw [e1, hac, ← hnew] at hh;exact OH) : p := h
theorem NQ {p : Prop} (h : p := by
  refine bX hh 2 [_,_] ?_;intro ws hh;replace hh : Hp _ (_ :: _ :: .blk _ _ [_, _] _ :: _) _ := hh;refine aI (aa (av ?_));refine pw ?_;exact Lg) : p := h
theorem N9 {p : Prop} (h : p := by
  have hil : i < l.length := Uz;have hE := hedge i hil;have ho : l.toArray[i]? = some l[i] := by simp [hil]
  rw [ho] at hE;have hmem : i ∈ Region.ready .any l.toArray L := (hready_spec i).2 ⟨hil, by
   have h3 : i < L.size := by rw [hI.ls, hnn]; exact hil
   rw [VR] at hu ⊢;rw [WZ h3] at hu ⊢;simpa using hu, l[i], ho, fun e he hb => by
   have := XX.1 hE e he;simp only [hb, Bool.not_true, VI, U2] at this;exact hlow _ this⟩
  rw [hnil] at hmem
  cases hmem) : p := h
theorem O8 {p : Prop} (h : p := by
  refine IV ?_;refine gD ?_;refine HQ ?_;intro ws hh;simp only [UU] at hh;rw [hand, es, U3, cJ (by rw [hll]; omega), pT, ← b1, hfk] at hh;refine aa (ao (mI ?_));refine mg (s := 1) (m := 2) rfl rfl UA UA UA ?_;refine aI (aC (bE (ai (ao (mI ?_)))));refine bo (aI (aC (ai ?_)));rw [es];refine ⟨⟨i + 1, Uz, rfl, by rw [b2]; rfl, hh⟩, by show K - (i + 1) < K - i; omega, ?_⟩;exact dQ) : p := h
theorem Ol {p : Prop} (h : p := by
  refine fF ?_;refine kv 3 UA UB UA UB UB ?_;refine bX hh 2 [_,_] ?_;intro ws hh;replace hh : Hp _ (_ :: _ :: .blk _ _ [_, _] _ :: _) _ := hh;refine aB (aa (av ?_));refine TC (eQ rfl (eN (vs := [_, _]) aM.out (hh.cn (i := 3) (n := 2) rfl rfl) rfl) (eQ rfl (eN (vs := [_, _]) aM.out (hh.cn (i := 2) (n := 2) rfl rfl) rfl) (kj (mG rfl) gF))) ?_;exact ⟨rfl, hh.below⟩) : p := h
theorem FH {p : Prop} (h : p := by
  refine gy (hc _ hh.below) al.out rfl rfl UA ?_;rintro e_ w16 ⟨rfl, hb_⟩;refine ⟨_, rfl, ?_⟩;replace hh := hh.ext hb_;refine zi ?_;refine bo (mI (aC (ai ?_)));refine ⟨⟨i + 1, Uz, rfl, by rw [ay hz, XK, hall, XJ, XN, gz]; rfl, hh⟩, by show n - (i + 1) < n - i; omega, ?_⟩;exact dQ) : p := h
theorem OW {p : Prop} (h : p := by
  refine fF ?_;refine fQ (i := 8) UB rfl ?_;refine gy (hsm _ (hT.hp hh)) al.out rfl rfl UA ?_; rintro e_ w41 ⟨rfl, hb_⟩; refine ⟨_, rfl, ?_⟩; replace hh := hh.ext hb_;refine fF ?_;refine fQ (i := 9) UB rfl ?_;refine Bj ?_;intro b42 w42 hh;refine fF ?_;refine fQ (i := 10) UB rfl ?_;refine qi ?_;intro A43 c43 w43 hh;simp only [UU, Vp] at hh;replace hh := hh.sub (Vs _ _);refine fF ?_;refine kv 15 UA UB UA UB UB ?_;refine aL (aL (aL (aC (bE (bE (ai ?_))))));replace hh := hh.sub (UG _ Ve);refine ⟨⟨_, n - 1, c - 1, X, _, m - 1, c2 - 1, Y, O ++ [⟨x.m, nR (x.c.d + y.c.d)⟩], A43, c43, rfl, rfl, ?_, Uz, Uz, hSt, hSt2, hmg.both h1 h2 hk, ?_⟩, by show (n - 1) + (m - 1) < n + m; omega, ?_⟩
  ·exact Ti
  ·rw [UM, bU];exact hh
  ·exact dQ) : p := h
theorem OC {p : Prop} (h : p := by
  have zy := zx.mul zu;have hm2 := fun A cc w1 hT1 hS1 => eK A 2 cc [nR x, nR u] w1 hT1 hS1 (by simpa using ⟨zx.ok Uz, zu.ok Uz⟩) 600000 (by simpa [bY] using ⟨zx.mono Uz, zu.mono Uz⟩) Uz Uz;rw [show ik ([nR x, nR u].map NR.d) = x * u by simp only [U9, VD, bY]; show 1 * x * _ = _; rw [WO]] at hm2;generalize x * u = y at *;have hsum := fun A cc w1 hT1 hS1 => jd A 2 cc [nR o, nR y] w1 hT1 hS1 (by simpa using ⟨zo.ok Uz, zy.ok Uz⟩) 2000000 (by simpa [bY] using ⟨zo.mono Uz, zy.mono Uz⟩) Uz;rw [show mA ([nR o, nR y].map NR.d) = o + y by simp only [U9, VD, bY, k0]] at hsum;have hrl := eT NR.len (S.map nR);refine aZ 16 [[(4, none)], [(5, none)], [(7, none)], [(38, some 1), (39, some 2)], [(4, none)], [(5, none)], [(7, none)], [(42, some 5), (43, some 6)], [(41, some 4), (44, some 7)], [(45, some 8)], [(6, none)], [(8, none)], [(47, some 10), (48, some 11)], [(49, some 12)], [(46, some 9), (50, some 13)], [(51, some 14)]] [(15, 52), (14, 51), (13, 50), (12, 49), (11, 48), (10, 47), (9, 46), (8, 45), (7, 44), (6, 43), (5, 42), (4, 41), (3, 40), (2, 39), (1, 38), (0, 37)] hh mixed UB ?_;refine gC ?_;refine dP ?_;refine dP ?_;refine sG ?_
  refine gC ?_;refine dP ?_;refine dP ?_;refine sG ?_;refine KZ ((i + j)) ?_;refine su [_,_,_] (fun _ hj => hj.hp.iF (f := NR.cells) (x := nR o) (l := S.map nR) (i := 3) rfl NR.len UA hon) ?_;refine fS 2 [_,_,_] ?_;refine fS 0 [_,_,_] ?_;refine sA [_,_,_,_,_,_] ?_;refine aP (i := 13) (Is (.agg #[.bool (nR y).neg, .string (nR y).bA, .int .i64 (nR y).e])) Is.ext ?_ ?_
  ·exact SW
  refine sA [_,_,_,_,_,_] ?_;refine aP (i := 15) (Is (.agg #[.bool (nR (o + y)).neg, .string (nR (o + y)).bA, .int .i64 (nR (o + y)).e])) Is.ext ?_ ?_
  ·exact S8
  refine aT ?_;intro f W hJ hV;have hb_11 := hJ.bl;obtain ⟨v52, v51, v50, v49, v48, v47, v46, v45, v44, v43, v42, v41, v40, v39, v38, v37, _⟩ := hV;obtain ⟨A49, c49, e49, f49⟩ : Rows _ _ _ (f 12) W := v49;obtain ⟨A51, c51, e51, f51⟩ : Rows _ _ _ (f 14) W := v51;replace hh := hJ.hp;refine aY (br (ae v52 (ae e51 (ae v50 (ae e49 (ae v48 (ae v47 (ae v46 (ae v45 (ae v44 (ae v43 (ae v42 (ae v41 (ae v40 (ae v39 (ae v38 (ae v37 aX))))))))))))))))) ?_;dsimp only [cg];clear e49 e51 hJ;exact Ot) : p := h
theorem OE {p : Prop} (h : p := by
  refine dk (aB (aa (av ?_)));refine de ?_;exact ⟨by rw [U0 hg], hh.below⟩) : p := h
theorem NT {p : Prop} (h : p := by
  rw [Vd (by rw [WK]; omega), Vd Uz]
  rfl) : p := h
theorem O5 {p : Prop} (h : p := by
  have h1 : bN m ≠ 0 := fun h => h0 (by rw [h, np]);rw [U0 h1];exact ⟨rfl, hh.below⟩) : p := h
theorem Nu {p : Prop} (h : p := by
  refine aS (aB (aa (av ?_)));refine KW ?_;rw [U0 Uz];exact ⟨rfl, hh.below⟩) : p := h
theorem HL {p : Prop} (h : p := by
  rw [UO, Vq Uz]
  rfl) : p := h
theorem Ou {p : Prop} (h : p := by
  refine dk (aB (aa (av ?_)));refine de ?_;exact ⟨by rw [Vf Uz], hh.below⟩) : p := h
theorem JH {p : Prop} (h : p := by
  exact ⟨0, UI _, rfl, fun t ht => (nomatch ht), hh⟩) : p := h
theorem N7 {p : Prop} (h : p := by
  rw [Wm];split
  ·exact List.nodup_nil
  ·exact WM.2 ⟨by simp, List.nodup_nil⟩) : p := h
theorem O2 {p : Prop} (h : p := by
  obtain ⟨cs, h6, h7⟩ := h5 i Uz;rw [hc] at h6;obtain ⟨a, rfl, h8⟩ := one _ _ _ h7;exact ⟨a, h6, h8⟩) : p := h
theorem Jn {p : Prop} (h : p := by
  rw [ho] at ho'; injection ho' with ho'; subst ho'; exact hed) : p := h
theorem ND {p : Prop} (h : p := by
  exact ⟨⟨Uz, (hcp.my o ho).2, by rw [e2]; exact po.ok, by rw [e2]; exact po.sz⟩, by rw [e2]; exact pl⟩) : p := h
theorem Rn {p : Prop} (h : p := by
  unfold qO;split
  ·rename_i hpe;have := fP.1 (cd hpe).1;rw [fw];omega
  ·exact UI _) : p := h
theorem St {p : Prop} (h : p := by
  refine de ?_;rw [← hcut, UM, U6, VM Uz];exact ⟨rfl, hh.below⟩) : p := h
theorem Ra {p : Prop} (h : p := by
  have := hp t (jq t ht) (i + 1) (by rw [U7]; omega);rwa [show j + 1 + i = j + (i + 1) by omega]) : p := h
theorem RJ {p : Prop} (h : p := by
  exact ⟨0, 0, none, [], [], UI _, rfl, rfl, rfl, ⟨fun j g o _ h => (nomatch h), fun o h => (nomatch h)⟩, hh⟩) : p := h
theorem R5 {p : Prop} (h : p := by
  have h1 : bN m = 0 := by rw [← np] at h0; exact HG h0
  rw [Vf Uz];exact ⟨rfl, hh.below⟩) : p := h
theorem Ro {p : Prop} (h : p := by
  induction xs generalizing ys c with
  | nil => exact Dg.nil
  | cons x xs ih => exact Dg.cons (Va _ hB) (ih _ _)) : p := h
theorem Rb {p : Prop} (h : p := by
  cases p with
  | nil => show Sz k (nR 0).d; rw [bY]; exact Sz.zero k
  | cons t p => exact (hok t UR).2) : p := h
theorem Rl {p : Prop} (h : p := by
  refine aS (aa (av ?_));refine de ?_;rw [UQ Uz] at hT;rw [hT];exact ⟨rfl, hh.below⟩) : p := h
theorem R3 {p : Prop} (h : p := by
  rw [show (18446744073709551616 : Nat) = 2 ^ 64 from rfl, ← Vu];exact Vr Uz Uz) : p := h
theorem PT {p : Prop} (h : p := by
  rw [g9 Uz (gj Uz _ _), dn hbd]) : p := h
theorem PI {p : Prop} (h : p := by
  exact ⟨PX.nil, fg.err he, rfl, (hh.sub (VT _)).Ca⟩) : p := h
theorem RZ {p : Prop} (h : p := by
  rw [ay hx] at ht
  rcases Vk.1 ht with ht | ht
  ·exact hall t ht
  ·rw [U4.1 ht]; exact PF hf) : p := h
theorem Ti {p : Prop} (h : p := by
  show Value.slice _ (O.length + 1) _ = Value.slice _ (O ++ [(⟨x.m, nR (x.c.d + y.c.d)⟩ : TR)]).length _;rw [UM]
  rfl) : p := h
theorem M8 {p : Prop} (h : p := by
  rw [hd] at h1;rw [hd];exact ⟨_, _, rfl, h1, hh.below⟩) : p := h
theorem RF {p : Prop} (h : p := by
  refine dL ?_;refine eV ?_;refine Fj ?_;refine de ?_;exact ⟨rfl, hh.below⟩) : p := h
theorem SA {p : Prop} (h : p := by
  unfold Program.cellsOf at hc
  cases hi : P.info? fd.type with
  | none => simp [hi] at hc
  | some i => exact ⟨i, rfl, by simpa [hi] using hc⟩) : p := h
theorem Qg {p : Prop} (h : p := by
  cases rest with
  | nil => simp at hlen; omega
  | cons x r => exact ⟨x, r, rfl⟩) : p := h
theorem SH {p : Prop} (h : p := by
  rw [cU, Wa, Vh hr2, VS _ _ Uz, Vx hr2, U5, nW];grind) : p := h
theorem Rh {p : Prop} (h : p := by
  refine Wz fun hn => hall fun i hi => ?_
  cases hc2 : L.getD i false with
  | true => rfl
  | false => exact absurd ⟨i, hi, hc2⟩ hn) : p := h
theorem Q3 {p : Prop} (h : p := by
  refine full L a w (fuel + 1) hI hall ?_;have hL : L = jt l.length m := yr (by rw [hI.ls, hnn]) hml hall hI.tl;rw [hL, Cy] at hc;omega) : p := h
theorem SD {p : Prop} (h : p := by
  have h2 := hD (i + 1) e (by simpa using he);refine ⟨h2.1, fun t ht => ?_⟩;have h3 := h2.2 t (jq t ht);rwa [show j + 1 + i = j + (i + 1) by omega]) : p := h
theorem RY {p : Prop} (h : p := by
  unfold co;split
  ·cases h : X[eW ds ((cU ds p).set a i)]? with
   | none => exact Sz.zero k
   | some y => exact hx y (UJ h)
  ·exact Sz.zero k) : p := h
theorem Rt {p : Prop} (h : p := by
  refine ⟨Uz, ?_⟩;by_cases hc : x0 + 2 ^ i * (x1 % 2) < y0 + 2 ^ i * (y1 % 2)
  ·rw [UF hc]; rw [hlt] at hc; omega
  ·rw [UE hc]; rw [hlt] at hc; omega) : p := h
theorem QE {p : Prop} (h : p := by
  rcases WG n with h | h
  ·exact h
  ·obtain ⟨_, h1, _⟩ := hS.2 h; cases h1) : p := h
theorem Sy {p : Prop} (h : p := by
  refine aa (cT (sr ?_));refine bD hh (l4 _ (hT.hp hh)) rfl ?_;intro w44 hh;refine aB (aa (av (aH ?_)));refine de ?_;exact ⟨rfl, hh.below⟩) : p := h
theorem RO {p : Prop} (h : p := by
  refine Er ?_;refine de ?_;rw [hbad (by simp [cC]; omega), UF rfl];exact ⟨rfl, hh.below⟩) : p := h
theorem Rv {p : Prop} (h : p := by
  have e : ns = ns.take i ++ d :: ns.drop (i + 1) := by rw [← gl h, VA]
  conv => lhs; rw [e]
  rw [List.reverse_append, Xg, Vt]
  rfl) : p := h
theorem Rs {p : Prop} (h : p := by
  refine bh (aa (cT (sr (aS (aB (aa (av (aH ?_))))))));refine KW ?_;rw [Nat.sub_eq_zero_of_le Uz, Vf Uz, np];exact ⟨rfl, hh.below⟩) : p := h
theorem SW {p : Prop} (h : p := by
  intro ρ1 w1 hj hR;obtain ⟨A49, c49, h49, s49⟩ := hR.1;exact a7 rfl (aK al.out (aw h49 aW)) (hm2 A49 c49 _ (hT.hp hj.hp) s49) (fun _ _ hq => ⟨_, hq.1, hq.2, rfl⟩)) : p := h
theorem S8 {p : Prop} (h : p := by
  intro ρ1 w1 hj hR;obtain ⟨A51, c51, h51, s51⟩ := hR.1;exact a7 rfl (aK al.out (aw h51 aW)) (hsum A51 c51 _ (hT.hp hj.hp) s51) (fun _ _ hq => ⟨_, hq.1, hq.2, rfl⟩)) : p := h
theorem P5 {p : Prop} (h : p := by
  rw [VR] at hun ⊢;rw [WZ hiL] at hun ⊢;simpa using hun) : p := h
theorem SJ {p : Prop} (h : p := by
  have e1 : (O ++ X ++ Y).length = O.length + n + m := by rw [UM, UM]; omega
  exact ⟨O ++ X ++ Y, A74, c74, hd, by rw [e1], by rw [e1, bU, bU]; exact hh⟩) : p := h
theorem RE {p : Prop} (h : p := by
  refine aa (cT (sr (aS (aI (aa (av (aH (cf (aH (aH (cf (aH ?_))))))))))));refine KW ?_;obtain ⟨e1, e2⟩ := Qd hx (by simp [cC]; omega);rw [e1, e2];exact ⟨rfl, hh.below⟩) : p := h
theorem Q9 {p : Prop} (h : p := by
  intro ρ1 w1 hj hR;exact fi rfl (ie (k := a) bk.out aM.size ((show ρ1 65 = Value.slice _ _ _ from hR.1).trans gO) (show ρ1 66 = Value.int _ _ from hR.2.1) Uz Uz) ⟨Below.refl _ _, rfl⟩) : p := h
theorem SF {p : Prop} (h : p := by
  refine sr ?_;refine KM ?_;refine de ?_;exact ⟨_, _, rfl, hh.sub (UG _ (VT _))⟩) : p := h
theorem RB {p : Prop} (h : p := by
  refine tY rfl (aw (Dd rfl) (aw (Dd rfl) aW)) UA ?_;refine j8 (by first | exact sY rfl | exact sZ rfl) UA ?_;refine aa (av ?_);refine de ?_;exact ⟨_, _, rfl, hh⟩) : p := h
theorem Rj {p : Prop} (h : p := by
  have h3 := hdep (i - m) Uz;rw [show m + (i - m) = i by omega] at h3;have h4 : (i - m == 0) = false := by simp; omega
  rw [h4, VI] at h3;have := kn hM hI.cl i m hed' h3;rw [hI.tl m (UH _)] at this
  cases this) : p := h
theorem R1 {p : Prop} (h : p := by
  have h1 : (Op.equal 65 (.agg #[.bool s, .string a, .int .i64 e]) (.agg #[.bool s', .string a', .int .i64 e'])).run Tryz.prog w = .ok r w := by rw [← hr]; exact HK 9997 s s' a a' e e' w
  simp only [execOp, hx, hy];simp [eqGuard, binOp, h1]) : p := h
theorem So {p : Prop} (h : p := by
  refine ⟨hI.nd, hI.sz, fun s => ?_⟩;by_cases hs : ∃ i, (i, s) ∈ ds
  ·obtain ⟨i, hi⟩ := hs;rw [(lZ _ ds s hnd).1 i hi, (hdsm i s hi).2]
  ·rw [(lZ _ ds s hnd).2 fun i hi => hs ⟨i, hi⟩];exact hI.KY s fun i hi _ hd => hs ⟨i, hpre i s hi hd⟩) : p := h
theorem QA {p : Prop} (h : p := by
  have := ur n zc;rw [hzl] at this;unfold madeCells;rw [hzc];have e2 : zc.toArray.size = sz := by simpa using hzl
  rw [e2, this]) : p := h
theorem Ri {p : Prop} (h : p := by
  have h1 : M < 256 ^ (aU 256 M).length := qg Uz M;rw [IX Uz h1, Vw, XY, Vo, Gq (fun d hd => (dK (B := 256) Uz M).1 d (Xb.1 hd)), sb, List.map_reverse]) : p := h
theorem Sw {p : Prop} (h : p := by
  obtain rfl : i = n := Uz;rw [UQ Uz] at hh;refine ah (sr (mI (mL (aJ ?_))));refine bh (aa (cF (a9 (aE (aE (bC (ai (sr (mL (aL (aa (av ?_))))))))))));refine de ?_;exact ⟨_, _, rfl, hh⟩) : p := h
theorem Sk {p : Prop} (h : p := by
  rintro e a' w' ⟨ρ', hf', hq⟩;have e1 : (fun i => a.tmps.getD i undef) = ρ := funext hf.at_;have e2 : (fun i => a'.tmps.getD i undef) = ρ' := funext hf'.at_
  cases e with
  | normal => exact ⟨⟨ρ', hf', hq.1⟩, by rw [e1, e2]; exact hq.2⟩
  | _ => exact ⟨ρ', hf', hq⟩) : p := h
theorem Ry {p : Prop} (h : p := by
  have h1 : z.natAbs = y.natAbs * 2 ^ j := by rw [← hyz, WQ, Xt]; rfl
  have h2 : y.natAbs * 1 ≤ y.natAbs * 2 ^ j := Vm _ (Vj Uz);have h3 : bF y.natAbs ≤ 8 * a.size := dy Uz;rw [lY];omega) : p := h
theorem Pp {p : Prop} (h : p := by
  refine aa (cT (sr (aI (aa (av (aH (cf (aH (aH (cf (aH ?_)))))))))));refine de ?_;exact ⟨by rw [hc], hh.below⟩) : p := h
theorem RD {p : Prop} (h : p := by
  rw [Vw, XY, Vo] at hh;refine ah (sr (mI (mL (aJ ?_))));refine bh (aa (cF (a9 (aE (aE (bC (ai (sr (mL (aL (aa (av ?_))))))))))));refine de ?_;exact ⟨_, rfl, hh.at_ (i := 0) rfl, hh.below⟩) : p := h
theorem RG {p : Prop} (h : p := by
  refine bX hh 0 [_,_,_,_,_,_] ?_;intro ws hh;replace hh : Hp _ (.blk _ _ [_, _, _, _, _, _] _ :: _) _ := hh;refine aa (av ?_);refine Mn (eQ rfl (eN (vs := [_, _, _, _, _, _]) aM.out (hh.cn (i := 0) (n := 6) rfl rfl) rfl) gF) ?_;exact ⟨rfl, hh.below⟩) : p := h
theorem Ln {p : Prop} (h : p := by
  intro ρ1 w1 hj hR;exact let ⟨g, u, e1, e2⟩ := hR.1; fi rfl (eJ e1) ⟨Below.refl _ _, g, u, rfl, e2⟩) : p := h
theorem Rp {p : Prop} (h : p := by
  have hr0 : rest = [] := Wk Uz;subst hr0;refine sr ?_;refine bh (aa (ah (cF (a9 (aE (aE (bC ?_)))))));refine QW (by first | exact .inr rfl | exact .inl rfl) rfl  ?_;rw [Vo, im, Vo] at *;rw [← heq];exact ⟨rfl, hh⟩) : p := h
theorem RL {p : Prop} (h : p := by
  rw [hu];refine bX hh 1 [_,_] ?_;intro ws hh;replace hh : Hp _ (_ :: .blk _ _ [_, _] _ :: _) _ := hh;refine aa (av ?_);refine AW ?_;rw [UQ Uz] at hS2;rw [hS2];exact ⟨rfl, hh.below⟩) : p := h
theorem P9 {p : Prop} (h : p := by
  intro w9 hh;refine ⟨(eQ rfl (eN (vs := [_, _, _]) aM.out (hh.cn (i := 0) (n := 3) rfl rfl) rfl) (kj (lI rfl) gF)), ?_⟩;exact ⟨rfl, hh.below⟩) : p := h
theorem PN {p : Prop} (h : p := by
  refine sr ?_;refine KM ?_;refine de ?_;exact ⟨_, _, rfl, hh⟩) : p := h
theorem Nb {p : Prop} (h : p := by
  exact UD) : p := h
theorem MN {p : Prop} (h : p := by
  intro ρ1 w1 hj hR;exact let ⟨g, u, e1, e2⟩ := hR.1; fi rfl (fH (vs := [_, _]) e1 rfl) ⟨Below.refl _ _, rfl⟩) : p := h
theorem FZ {p : Prop} (h : p := by
  refine aS (aa (av ?_));refine de ?_;exact ⟨rfl, hh.below⟩) : p := h
theorem M4 {p : Prop} (h : p := by
  intro ρ1 w1 hj hR;exact let ⟨g, u, e1, e2⟩ := hR.1; fi rfl (fH (vs := [_, _]) e1 rfl) ⟨Below.refl _ _, g, u, rfl, e2⟩) : p := h
theorem Qp {p : Prop} (h : p := by
  rw [hds, Xb, VF];refine ⟨(some d, i), ?_, rfl⟩;rw [List.mem_zipIdx_iff_getElem?];rw [UO, Vq hi];simp only [Wj, hd]) : p := h
theorem PV {p : Prop} (h : p := by
  refine aa (cT (sr (aL (aa (av (aH (cf (aH (aH (cf (aH ?_)))))))))));refine de ?_;simp only [xD, hf];exact KE) : p := h
theorem QB {p : Prop} (h : p := by
  refine sr ?_;refine KM ?_;refine de ?_;exact ⟨_, _, rfl, hh.at_ (i := 0) rfl, hh.below⟩) : p := h
theorem Bw {p : Prop} (h : p := by
  refine aI (aa (av ?_));refine de ?_;exact ⟨rfl, hh.below⟩) : p := h
theorem Qt {p : Prop} (h : p := by
  refine aI (aa (sr (mI ?_)));refine dk (aa (cT (sr (mI (aI (aa (av (aH ?_))))))));refine de ?_;exact ⟨rfl, hh.below⟩) : p := h
theorem PS {p : Prop} (h : p := by
  intro A7 c7 w7 hh;simp only [UU] at hh;rw [U5] at hh ⊢;rw [UN] at hh;refine aL (aa (av ?_));refine de ?_;exact ⟨_, _, rfl, hh.at_ (i := 0) rfl, hh.below⟩) : p := h
theorem Rr {p : Prop} (h : p := by
  refine aI (aa (sr (mI ?_)));refine dk (aa (cT (sr ?_)));refine gH [_,_] (mI ?_);refine bX hh 0 [_,_] ?_;intro ws hh;replace hh : Hp _ (.blk _ _ [_, _] _ :: _) _ := hh;refine aI (aa (av (aH ?_)));refine zI ?_;exact ⟨FX.nil, Out.err hE, rfl, (hh.sub (VT _)).Rz⟩) : p := h
theorem QV {p : Prop} (h : p := by
  refine sr (aL (aa (ah (sr (mL ?_)))));refine sU bk.out rfl rfl UA ?_;refine aa (cT (sr (aL (aa (av (aH ?_))))));refine de ?_;exact ⟨_, _, rfl, World.ownsRow_nil _ _ _ _, hh.below⟩) : p := h
theorem PE {p : Prop} (h : p := by
  have p1 := hpre i d hi h1;have p2 := hpre j d hj h2;have e1 := ((lZ (ρ := ρ) (fun i => .int .i64 i) ds d hnd).1 i p1).symm.trans ((lZ (ρ := ρ) (fun i => .int .i64 i) ds d hnd).1 j p2);injection e1 with _ e1
  omega) : p := h
theorem Rg {p : Prop} (h : p := by
  refine sr ?_;refine mM ?_;refine cE hh 0 [_,_,_] ?_;refine bX hh 1 [_,_,_] ?_;intro ws hh;replace hh : Hp _ (_ :: .blk _ _ [_, _, _] _ :: _) _ := hh;refine aa (av ?_);refine Mn (eQ rfl (eN (vs := [_, _, _]) aM.out (hh.cn (i := 1) (n := 3) rfl rfl) rfl) gF) ?_;rw [UQ Uz] at hS2;rw [hS2];exact ⟨rfl, hh.below⟩) : p := h
theorem Sm {p : Prop} (h : p := by
  refine aa (cF (a9 (aE (aE (bC (ai (ah (sr (mI ?_)))))))));refine dk (aa (cT (sr ?_)));refine gH [_,_] (mI ?_);refine bX hh 2 [_,_] ?_;intro ws hh;replace hh : Hp _ (_ :: _ :: .blk _ _ [_, _] _ :: _) _ := hh;refine aI (aa (av (aH ?_)));refine pw ?_;exact ⟨PX.nil, fg.err he0, rfl, (hh.sub (VT _)).Ca⟩) : p := h
theorem C4 {p : Prop} (h : p := by
  refine zQ ?_;refine de ?_;exact ⟨rfl, hh.below⟩) : p := h
theorem P2 {p : Prop} (h : p := by
  refine bX hh 1 [_,_,_] ?_;intro ws hh;replace hh : Hp _ (_ :: .blk _ _ [_, _, _] _ :: _) _ := hh;refine aa (av ?_);refine Mn (eQ rfl (eN (vs := [_, _, _]) aM.out (hh.cn (i := 1) (n := 3) rfl rfl) rfl) gF) ?_;exact ⟨rfl, hh.below⟩) : p := h
theorem Rc {p : Prop} (h : p := by
  simp only [cm];rw [← htake];have h5 : o + vs.length ≤ m * sz := Uz;have h6 : m * sz ≤ cur.toList.length := by rw [← hcl, hcur]; exact hle
  rw [List.take_take, VM Uz, List.drop_take, Vt, Vt, List.take_append, List.take_append];simp only [U6, VM (show o ≤ cur.toList.length by omega)];rw [UQ (l := cur.toList.take o) (by simp; omega), UQ (l := vs) Uz];congr 2;congr 1;omega) : p := h
theorem Ax {p : Prop} (h : p := by
  refine de ?_;exact ⟨_, rfl, fun h => (by cases h), hh.below⟩) : p := h
theorem vy {p : Prop} (h : p := by
  refine aB (aa (av ?_));refine de ?_;exact ⟨rfl, hh.below⟩) : p := h
theorem Pu {p : Prop} (h : p := by
  rw [UQ Uz] at hall;refine sr ?_;refine E7 ?_;refine de ?_;exact ⟨_, rfl, ⟨fun h => absurd h UA, fun h => by rw [hall] at h; cases h⟩, hh.below⟩) : p := h
theorem SC {p : Prop} (h : p := by
  intro L a w hI hc;have hall : ∀ i, i < l.length → L.getD i false = true := fun i hi => by
   exact NW
  have hmn : l.length ≤ 0 + m := by
   rcases Vv m l.length with h | h
   ·have h1 := hall m h;rw [hI.tl m (UH _)] at h1
    cases h1
   ·omega
  exact full L a w 0 hI (fun i hi => hall i Uz) hmn) : p := h
theorem Rq {p : Prop} (h : p := by
  have hdm : j / sz * sz + j % sz = j := by rw [Vg]; exact Wn j sz
  have hmod : j % sz < sz := Va _ h0;have hj : j / sz < l.length := by
   have := (UW.1 hu).1;rw [eT hf] at this;exact Nat.div_lt_of_lt_mul (by rw [Vg]; exact this)
  obtain ⟨x, hx⟩ := ak hj;have h6 := tF hf hx;have h7 : (f x)[j % sz]? = some u := by
   rw [← h6, Wq, UF hmod, Wt, hdm];exact hu
  have h8 := (World.cells?_some (hp _ _ hx).1).2.2 (j % sz) hmod;rw [h7, l5, hdm] at h8;exact h8) : p := h
theorem Sr {p : Prop} (h : p := by
  have hJ0 : J ({ w with drawn := w.drawn + 1 } : World) := hJ w _ h0 ⟨rfl, rfl, rfl, UH _, fun _ _ => rfl⟩;have hr0 : ∀ i, (Array.replicate l.toArray.size false).getD i false = false := fun i => by
   rw [VR, Array.getElem?_replicate]; split <;> rfl
  refine key _ _ _ _ ⟨hf.nd, hf.sz, hJ0, by simp, fun k o _ hk => ?_, fun k _ => hr0 k, fun i d _ hi => ?_, fun s _ => hf.at_ s, fun i _ hi => ?_, fun i _ j _ _ hi => ?_⟩ ?_
  ·rw [hr0] at hk; cases hk
  ·rw [hr0] at hi; cases hi
  ·rw [hr0] at hi; cases hi
  ·rw [hr0] at hi; cases hi
  ·simp [List.countP_replicate]) : p := h
theorem RW {p : Prop} (h : p := by
  refine bX hh 0 [_,_] ?_;intro ws hh;replace hh : Hp _ (.blk _ _ [_, _] _ :: _) _ := hh;refine aI (aa (av (aH ?_)));refine zI ?_;exact ⟨PX.nil, fg.err Uz, rfl, (hh.sub (VT _)).Ca⟩) : p := h
theorem Lg {p : Prop} (h : p := by
  exact ⟨g, og, rfl, hh.sub (UG _ (VT _))⟩) : p := h
theorem QR {p : Prop} (h : p := by
  refine gy (hc _ hh.below) al.out rfl rfl UA ?_;rintro e_ w16 ⟨rfl, hb_⟩;refine ⟨_, rfl, ?_⟩;replace hh := hh.ext hb_;refine aa (cT (sr (mI (aI (aa (av (cf (aH (aH (cf (aH ?_)))))))))));refine de ?_;exact ⟨_, rfl, ⟨fun _ => Wi.2 ⟨z, UJ hz, gz⟩, fun _ => by omega⟩, hh.below⟩) : p := h
theorem Pz {p : Prop} (h : p := by
  rintro e_ w7 ⟨v_, rfl, hv_, hb_⟩;refine ⟨_, rfl, ?_⟩;replace hh := hh.ext hb_
  cases ga : l.any p with
  | true =>
   have h0 := hv_.2 ga;exact Ep
  | false =>
   have h0 : ¬ 0 ≤ v_ := fun h => by rw [hv_.1 h] at ga; cases ga
   exact Ep) : p := h
theorem Q4 {p : Prop} (h : p := by
  unfold ByteArray.toList;have : ∀ (n i : Nat) (r : List UInt8), s.size - i = n → ByteArray.toList.loop s i r = r.reverse ++ s.data.toList.drop i := by
   intro n
   induction n with
   | zero =>
    intro i r h;rw [ByteArray.toList.loop, UE Uz, Wu (by rw [Array.length_toList]; show s.size ≤ i; omega)];simp
   | succ n ih =>
    intro i r h;have hi : i < s.size := Uz;rw [ByteArray.toList.loop, UF hi, ih (i + 1) _ Uz];have hi2 : i < s.data.toList.length := by rw [Array.length_toList]; exact hi
    rw [V0 hi2];have : s.get! i = s.data.toList[i] := by
     show s.data[i]! = _;rw [getElem!_pos s.data i (by simpa using hi2)];simp
    simp [this]
  simpa using this (s.size - 0) 0 [] rfl) : p := h
theorem Ql {p : Prop} (h : p := by
  have h16 : ¬ 2 ^ 24 < len * sz := Uz;have hf' := xU _ _ _ hf;rw [← ur, hzl] at hf';have hzs : zc.toArray.size = sz := by simpa using hzl
  have hp' := D9 parts hp;simp only [execOp, hp', Instr.buildSlice, Sem.run_bind, run_underlying ht, Result.andThen_ok, e9 hte, gt_iff_lt, UE h16, UE h0, hz, hzc, Sem.run_pure, hzs, hf'];simp [newRow]) : p := h
theorem PC {p : Prop} (h : p := by
  simp only [E1]
  rcases Vv i l.length with hi | hi
  ·rw [VR, Array.getElem?_append_left (by simpa using hi)];simp [VQ]
  ·rw [VR, Array.getElem?_append_right (by simpa using hi)];simp only [VQ, Vd hi, Option.getD_none, Array.getElem?_replicate];split <;> rfl) : p := h
theorem SI {p : Prop} (h : p := by
  refine fF ?_;refine kv 3 UA UB UA UB UB ?_;refine bX hh 3 [_,_] ?_;intro ws hh;replace hh : Hp _ (_ :: _ :: _ :: .blk _ _ [_, _] _ :: _) _ := hh;refine aB (aa (av ?_));refine TC (eQ rfl (eN (vs := [_, _]) aM.out (hh.cn (i := 4) (n := 2) rfl rfl) rfl) (eQ rfl (eN (vs := [_, _]) aM.out (hh.cn (i := 3) (n := 2) rfl rfl) rfl) (kj (mG rfl) gF))) ?_;exact ⟨rfl, hh.below⟩) : p := h
theorem QC {p : Prop} (h : p := by
  refine DN ?_;exact ⟨g, og, rfl, hh.sub (UG _ (VT _))⟩) : p := h
theorem QK {p : Prop} (h : p := by
  rw [hds, Xb, VF] at hp;obtain ⟨⟨x, k⟩, hx, hxe⟩ := hp;rw [List.mem_zipIdx_iff_getElem?] at hx
  cases x with
  | none => simp at hxe
  | some d' =>
   simp only [Wj, Wv, Prod.mk.injEq] at hxe;obtain ⟨rfl, rfl⟩ := hxe;rw [UO] at hx
   cases hr : (List.range m)[k]? with
   | none => rw [hr] at hx; simp at hx
   | some y =>
    have hkm : k < m := by
     have := (UW.1 hr).1;simpa using this
    rw [Vq hkm] at hx;simp only [Wj, Wv] at hx;exact ⟨hkm, hx⟩) : p := h
theorem J8 {p : Prop} (h : p := by
  refine bX hh 1 [_,_] ?_;intro ws hh;replace hh : Hp _ (_ :: .blk _ _ [_, _] _ :: _) _ := hh;refine aa (av ?_);exact O0) : p := h
theorem SE {p : Prop} (h : p := by
  exfalso;have hmin : ∀ k, (∃ i, i < k ∧ i < m ∧ L.getD i false = false) → ∃ i, i < m ∧ L.getD i false = false ∧ ∀ j, j < i → L.getD j false = true := by
   intro k
   induction k with
   | zero => rintro ⟨i, h, _⟩; omega
   | succ k ihk =>
    rintro ⟨i, h1, h2, h3⟩;by_cases hex : ∃ i, i < k ∧ i < m ∧ L.getD i false = false
    ·exact ihk hex
    ·exact Ov
  obtain ⟨i0, h1, h2⟩ := hsome;obtain ⟨i, hi, hu, hlow⟩ := hmin (i0 + 1) ⟨i0, Uz, h1, h2⟩;exact N9) : p := h
theorem P4 {p : Prop} (h : p := by
  unfold Region.ready;rw [V7, Vi, hnn];constructor
  ·rintro ⟨h1, h2⟩;have ho : l.toArray[i]? = some l[i] := by simp [h1]
   rw [ho] at h2;simp only [Wj, VV, UX, X3] at h2;refine ⟨h1, h2.1, l[i], ho, fun e he hb => ?_⟩;have := XX.1 h2.2 e he;simpa [hb] using this
  ·rintro ⟨h1, h2, o, ho, h3⟩;refine ⟨h1, ?_⟩;rw [ho];simp only [Wj, VV, UX, X3];refine ⟨h2, XX.2 fun e he => ?_⟩
   cases hb : Region.binds .any e with
   | false => simp
   | true => simpa [hb] using h3 e he hb) : p := h
theorem SY {p : Prop} (h : p := by
  exact On) : p := h
theorem Sa {p : Prop} (h : p := by
  refine aI (aa (sr (mI ?_)));refine dk (aa (cT (sr ?_)));refine gH [_,_] (mI ?_);refine bX hh 0 [_,_] ?_;intro ws hh;replace hh : Hp _ (.blk _ _ [_, _] _ :: _) _ := hh;refine aI (aa (av (aH ?_)));refine zI ?_;exact ⟨PX.nil, fg.err h0, rfl, (hh.sub (VT _)).Ca⟩) : p := h
theorem Oi {p : Prop} (h : p := by
  refine bX hh 0 [_,_] ?_;intro ws hh;replace hh : Hp _ (.blk _ _ [_, _] _ :: _) _ := hh;refine aa (av ?_);exact On) : p := h
theorem Oa {p : Prop} (h : p := by
  refine sk (c := cc) bk.out rfl rfl Uz hcc UA ?_;skip;refine xu ?_;refine bo (aI (aa (av ?_)));refine de ?_;refine ⟨?_, Below.refl _ _⟩;congr 2;rw [hcv];omega) : p := h
theorem Lj {p : Prop} (h : p := by
  refine bX hh 0 [_,_,_] ?_;intro ws hh;replace hh : Hp _ (.blk _ _ [_, _, _] _ :: _) _ := hh;refine aa (av ?_);exact Oq) : p := h
theorem TI {p : Prop} (h : p := by
  refine oK ?_;refine dS (dS (dS (dU (dU (dU (dU ?_))))));refine AN (i := 28) rfl (fun ρ1 w1 hj hR => (show ρ1 44 = undef from hR.2.2.1)) ?_;refine dU (dU (dU (dU ?_)));refine aT ?_;intro f W hJ hV _;have hb_8 := hJ.bl;obtain ⟨v53, v52, v51, v50, v49, v48, v47, v46, v45, v44, v43, v42, v41, v40, v39, v38, v37, v36, v35, v34, v33, v32, v31, v30, v29, v28, v27, v26, v25, v24, v23, v22, v21, _⟩ := hV;replace hh := hJ.hp;refine ED ?_;dsimp only [cg];clear hJ;refine gV (gS ?_);refine fO ?_;refine Er ?_;refine de ?_;exact ⟨rfl, hh.below⟩) : p := h
theorem TN {p : Prop} (h : p := by
  intro w40 hh;rw [fB];refine bh (aa (cF (ar (ai (ah ?_)))));refine qo hh mixed fun w_ hj_ => ?_;replace hh := hj_.hp;clear hj_;refine tS (i := 0) (i2 := 1) UB rfl rfl ?_ ?_
  ·refine cE hh 1 [_,_] ?_;refine fF ?_;refine tS (i := 1) (i2 := 2) UB rfl rfl ?_ ?_
   ·refine cE hh 0 [_,_] ?_;exact Nw
   ·refine bX hh 3 [_,_] ?_;intro ws hh;replace hh : Hp _ (_ :: _ :: _ :: .blk _ _ [_, _] _ :: _) _ := hh;refine fF ?_;refine fQ (i := 1) UB rfl ?_;refine cE hh 0 [_,_] ?_;exact Ol
  ·refine cE hh 0 [_,_] ?_;refine fF ?_;refine fQ (i := 0) UB rfl ?_;refine cE hh 1 [_,_] ?_;exact Nw) : p := h
theorem K2 {p : Prop} (h : p := by
  refine gH [_,_] ?_;refine bX hh 0 [_,_] ?_;intro ws hh;replace hh : Hp _ (.blk _ _ [_, _] _ :: _) _ := hh;refine aI (aa (av (aH ?_)));refine zI ?_;exact ⟨PX.nil, fg.err UA, rfl, (hh.sub (VT _)).Ca⟩) : p := h
theorem Tm {p : Prop} (h : p := by
  rw [hs];refine mI ?_;refine gH [_,_,_,_,_] ?_;refine bW hh ?_;intro b6 w6 hh;refine bX hh 0 [_,_,_,_,_] ?_;intro ws hh;replace hh : Hp _ (.blk _ _ [_, _, _, _, _] _ :: _) _ := hh;refine aa (ah ?_);refine aZ 9 [[(6, none)], [(30, some 0)], [(2, none)], [(31, some 1), (32, some 2)], [(6, none)], [(34, some 4)], [(3, none)], [(35, some 5), (36, some 6)], [(6, none)]] [(8, 38), (7, 37), (6, 36), (5, 35), (4, 34), (3, 33), (2, 32), (1, 31), (0, 30)] hh mixed UB ?_;refine ef ?_;refine gE 0 ?_;refine fS 3 [_,_,_] ?_;refine dC (fun _ hj => hcx _ (hT.hp hj.hp)) ?_;refine ef ?_;refine gE 0 ?_;refine fS 2 [_,_,_] ?_;refine dC (fun _ hj => hcy _ (hT.hp hj.hp)) ?_;refine ef ?_;refine aT ?_;intro f W hJ hV;have hb_8 := hJ.bl;obtain ⟨v38, v37, v36, v35, v34, v33, v32, v31, v30, _⟩ := hV;replace hh := hJ.hp;refine aY (br (ae v38 (ae v37 (ae v36 (ae v35 (ae v34 (ae v33 (ae v32 (ae v31 (ae v30 aX)))))))))) ?_;dsimp only [cg];clear hJ;refine bX hh 0 [_,_] ?_;intro ws hh;replace hh : Hp _ (.blk _ _ [_, _, _, _, _] _ :: _) _ := hh;refine bH ?_;refine bX hh 0 [_,_] ?_;intro ws hh;replace hh : Hp _ (.blk _ _ [_, _, _, _, _] _ :: _) _ := hh;refine aa (sr ?_);refine cE hh 0 [_,_,_,_,_] ?_
  refine bX hh 1 [_,_,_,_,_] ?_;intro ws hh;replace hh : Hp _ (_ :: .blk _ _ [_, _, _, _, _] _ :: _) _ := hh;refine aa (av ?_);refine Mn (eQ rfl (eN (vs := [_, _, _, _, _]) aM.out (hh.cn (i := 1) (n := 5) rfl rfl) rfl) gF) ?_;exact ⟨rfl, hh.below⟩) : p := h
theorem dQ {p : Prop} (h : p := by
  exact UC) : p := h
section
variable {H : Type} {enc : TypeId × Value → H} {P : Program}
theorem nY (hl : laidOutB P = true) {W W' : World} (hb : Below W.heap.size W W') (sp : Nat → Bool) : ∀ (ts : List TypeId) (vs : List Value) (ds : List (DataW H)) (ps : List MemPlace), (∀ t ∈ ts, P.readableRec t = true ∧ t < P.types.size) →
  (∀ x ∈ ps, x.block < W.heap.size) → (∀ x ∈ ps, sp x.block = true) → DataW.TrodAll enc P W 0 (fun _ => true) true ts vs ds ps → DataW.TrodAll enc P W' 0 sp true ts vs ds ps
 | [], vs, ds, ps, _, _, _, h => by
  obtain ⟨rfl, rfl, rfl⟩ := trodAll_nil h;exact trodAll_mk0
 | t :: ts, vs, ds, ps, hr, hlt, hsp, h => by
  obtain ⟨v, vs', d, ds', p, q, rfl, rfl, rfl, h0, r0⟩ := trodAll_cons h;refine trodAll_cons_mk (WideElems.Trod_stays hl (hr t UR).1 (hr t UR).2 h0 (fun x hx => hb.same (hlt x (WB _ hx))) (fun x hx => hsp x (WB _ hx)))
   (nY hl hb sp ts vs' ds' q (fun t ht => hr t (UT _ ht)) (fun x hx => hlt x (Wp _ hx)) (fun x hx => hsp x (Wp _ hx)) r0)
theorem JQ {f : Func} {s : ChangeSpec} {W W' : World} {args : Array Value} {ds : List (DataW H)} {before : List MemPlace} {tb : TypeId}
  (hW : DataW.Whole enc P f.params.toList s.vars false W args.toList ds [] before) (hv : s.vars = []) (hl : laidOutB P = true) (hr : ∀ t ∈ f.params.toList, P.readableRec t = true ∧ t < P.types.size)
  (hres : f.resultTypes = #[tb]) (hbool : P.underlying tb = some .bool) (hs1 : (s.fn H (ds ++ [])).results = [.lit (.bool true)]) (hs2 : (s.fn H (ds ++ [])).args = ds) (hs3 : (s.fn H (ds ++ [])).vars = []) (hb : Below W.heap.size W W') :
  s.post enc P f false true false false W args (.bool true) W' := by
 have hlt : ∀ p ∈ before, p.block < W.heap.size := fun p hp => by simpa using hW.lt p hp
 have hold : ∀ p ∈ before, (fun b => decide (b < W.heap.size)) p.block = true := fun p hp => by simpa using hlt p hp
 have hW0 := hW;obtain ⟨pa, pv, hA, hV, hps, hz, hn⟩ := hW0;rw [hv] at hV;obtain ⟨_, rfl⟩ := trodVars_none hV;have hbp : before = pa := by rw [hps, Vo]
 subst hbp;have hA' : ∀ sp : Nat → Bool, (∀ p ∈ before, sp p.block = true) → DataW.TrodAll enc P W' 0 sp true f.params.toList args.toList (s.fn H (ds ++ [])).args before := fun sp hsp => by
  rw [hs2];exact nY hl hb sp _ _ _ _ hr hlt hsp hA
 have hV' : ∀ sp : Nat → Bool, DataW.TrodVars enc P W' sp s.vars (s.fn H (ds ++ [])).vars [] := fun sp => by
  rw [hv, hs3]; rfl
 have hR : ∀ (b : Nat) (sp : Nat → Bool) (hd : Bool), DataW.TrodAll enc P W' b sp hd f.resultTypes.toList ((Value.bool true).resultList f.resultTypes.size) (s.fn H (ds ++ [])).results [] := fun b sp hd => by
  rw [hres, hs1];exact trodAll_cons_mk (shut_bool hbool _) trodAll_mk0
 refine ⟨ds, [], before, [], before, [], hW, hR _ _ _, hA' _ hold, hV' _, World.keptBut_mono (fun p hp => ⟨hp, ?_⟩) (hb.frame (· ∈ before)), fun _ => ?_⟩
 ·exact .inr (.inl hp)
 ·refine ⟨ok_one hres rfl (okWide_bool_mk hbool _), _, _, ([] ++ before) ++ [], ⟨[] ++ before, [], trodAll_append (hA' _ (fun _ _ => rfl)) (hR _ _ _), hV' _, rfl, ?_, ?_⟩, ?_⟩
  ·intro b off hp;have hp2 := hz b off (by simpa using hp);rw [hb.frozen (hlt _ (by simpa using hp))];exact hp2
  ·intro ha
   cases ha
  ·intro p hp _;simpa using hp
end
open Go.RowKit
abbrev Rf := Nat → Value
def cI (ρ : Rf) (d : Nat) (v : Value) : Rf := fun i => bif Nat.beq i d then v else ρ i
def ev (ρ : Rf) : Operand → Value
 | .tmp t => ρ t
 | .const v => v
 | .global g => .pointer (some ⟨g, 0, none⟩)
 | .func f => .func (.func f) #[] #[]
structure ew (N : Nat) (D : List Deferred) (a : Act) (ρ : Rf) : Prop where
 nd : a.defers = D
 sz : a.tmps.size = N
 at_ : ∀ i, a.tmps.getD i undef = ρ i
abbrev Fits (N : Nat) (a : Act) (ρ : Rf) : Prop := ew N [] a ρ
theorem ew.eval {N : Nat} {D : List Deferred} {a : Act} {ρ : Rf} (h : ew N D a ρ) : a.eval = ev ρ := by
 funext x
 cases x with
 | tmp t => exact h.at_ t
 | _ => rfl
theorem iE (ρ : Rf) (d : Nat) (v : Value) : cI ρ d v d = v := by simp [cI]
theorem bp (ρ : Rf) {d i : Nat} (h : i ≠ d) (v : Value) : cI ρ d v i = ρ i := by
 have hb : Nat.beq i d = false := by
  cases hb : Nat.beq i d
  ·rfl
  ·exact absurd (Nat.eq_of_beq_eq_true hb) h
 simp only [cI, hb, cond_false]
theorem ew.put {N : Nat} {D : List Deferred} {a : Act} {ρ : Rf} (h : ew N D a ρ) {d : Nat} (hd : d < N) (v : Value) : ew N D (a.put (some d) v) (cI ρ d v) := by
 refine ⟨h.nd, by simp [Act.put, h.sz], fun i => ?_⟩;by_cases hi : i = d
 ·subst hi;rw [iE];simp [Act.put, h.sz, hd]
 ·rw [bp ρ hi, ← h.at_ i];have : d ≠ i := fun e => hi e.symm;simp [Act.put, Array.getElem?_setIfInBounds_ne this]
abbrev Kq := Exit → Rf → World → Prop
def dx (N : Nat) (D : List Deferred) (Q : Kq) : Exit → Act → World → Prop := fun e a w => ∃ ρ, ew N D a ρ ∧ Q e ρ w
abbrev lift (N : Nat) (Q : Kq) : Exit → Act → World → Prop := dx N [] Q
structure Mode where
 round : Option Nat := none
 D : List Deferred := []
 any : Bool := false
abbrev Mode.plain : Mode := {}
def FW (ro : Option Nat) : Fence := { Fence.wide with round := ro }
structure WC (ro : Mode) (P : Program) (N : Nat) (c : Code) (Q : Kq) (ρ : Rf) (w : World) : Prop where
 mu : ro.any = false → ∀ a, ew N ro.D a ρ → c.wp P (dx N ro.D Q) a w
 jM : ∀ a, ew N ro.D a ρ → ∀ n, c.wpIn (FW ro.round) n P (dx N ro.D Q) a w
structure WL (ro : Mode) (P : Program) (N : Nat) (ops : Array Oper) (Q : Kq) (l : List Oper) (ρ : Rf) (w : World) : Prop where
 mu : ro.any = false → ∀ a, ew N ro.D a ρ → wpList P ops (dx N ro.D Q) l a w
 jM : ∀ a, ew N ro.D a ρ → ∀ n, wpListIn (FW ro.round) n P ops (dx N ro.D Q) l a w
def cD (next : Rf → World → Prop) (Q : Kq) : Kq
 | .normal, ρ, w => next ρ w
 | e, ρ, w => Q e ρ w
def qI (id : Nat) (Q : Kq) : Kq
 | .exit id', ρ, w => if id' = id then Q .normal ρ w else Q (.exit id') ρ w
 | e, ρ, w => Q e ρ w
section code
variable {ro : Mode} {P : Program} {N : Nat} {Q : Kq} {ρ : Rf} {w : World}
theorem WC.qx {D : List Deferred} {c : Code} (h : ∀ a, ew N D a ρ → c.wp P (dx N D Q) a w) : WC ⟨none, D, false⟩ P N c Q ρ w := ⟨fun _ => h, fun a hf _ => wpIn_wide.2 (h a hf)⟩
theorem WC.out {D : List Deferred} {c : Code} (h : WC ⟨none, D, false⟩ P N c Q ρ w) : ∀ a, ew N D a ρ → c.wp P (dx N D Q) a w := h.mu rfl
theorem PK {r : Option Nat} {D : List Deferred} {c : Code} (h : WC ⟨r, D, false⟩ P N c Q ρ w) : WC ⟨r, D, true⟩ P N c Q ρ w := ⟨fun h => (by cases h), h.jM⟩
theorem WL.out {D : List Deferred} {ops : Array Oper} {l : List Oper} (h : WL ⟨none, D, false⟩ P N ops Q l ρ w) : ∀ a, ew N D a ρ → wpList P ops (dx N D Q) l a w := h.mu rfl
theorem wh {D : List Deferred} {Q Q' : Kq} (h : ∀ e ρ w, Q e ρ w → Q' e ρ w) (e : Exit) (a : Act) (w : World) : dx N D Q e a w → dx N D Q' e a w :=
 fun ⟨ρ, hf, hq⟩ => ⟨ρ, hf, h _ _ _ hq⟩
theorem WC.mono {c : Code} {Q' : Kq} (h : WC ro P N c Q ρ w) (hq : ∀ e ρ w, Q e ρ w → Q' e ρ w) : WC ro P N c Q' ρ w :=
 ⟨fun hm a hf => wp_mono (h.mu hm a hf) (wh hq), fun a hf n => wpIn_mono (h.jM a hf n) (wh hq)⟩
theorem ah {x y : Code} (h : WC ro P N x (cD (fun ρ w => WC ro P N y Q ρ w) Q) ρ w) : WC ro P N (.seq x y) Q ρ w :=
 ⟨fun hm a hf => wp_seq (wp_mono (h.mu hm a hf) fun e a' w' ⟨ρ', hf', hq⟩ => by
  cases e with
  | normal => exact hq.mu hm a' hf'
  | _ => exact ⟨ρ', hf', hq⟩),
 fun a hf n => wpIn_seq (wpIn_mono (h.jM a hf n) fun e a' w' ⟨ρ', hf', hq⟩ => by
  cases e with
  | normal => exact hq.jM a' hf' n
  | _ => exact ⟨ρ', hf', hq⟩)⟩
theorem ar (h : Q .normal ρ w) : WC ro P N .skip Q ρ w := ⟨fun _ _ hf => wp_skip ⟨ρ, hf, h⟩, fun _ hf _ => wpIn_skip ⟨ρ, hf, h⟩⟩
theorem av (h : Q .ret ρ w) : WC ro P N .ret Q ρ w := ⟨fun _ _ hf => wp_ret ⟨ρ, hf, h⟩, fun _ hf _ => wpIn_ret ⟨ρ, hf, h⟩⟩
theorem a9 {id : Nat} (h : Q (.exit id) ρ w) : WC ro P N (.exit id) Q ρ w := ⟨fun _ _ hf => wp_exit ⟨ρ, hf, h⟩, fun _ hf _ => wpIn_exit ⟨ρ, hf, h⟩⟩
theorem aq {id : Nat} {c : Code} (h : WC ro P N c (qI id Q) ρ w) : WC ro P N (.block id c) Q ρ w :=
 have key : ∀ (D : List Deferred) e a' w', dx N D (qI id Q) e a' w' → Exit.inBlock id (dx N D Q) e a' w' := fun D e a' w' ⟨ρ', hf', hq⟩ => by
  cases e with
  | exit id' =>
   by_cases hid : id' = id
   ·simp only [qI, hid, if_true] at hq;simp only [Exit.inBlock, hid, if_true];exact ⟨ρ', hf', hq⟩
   ·simp only [qI, hid, if_false] at hq;simp only [Exit.inBlock, hid, if_false];exact ⟨ρ', hf', hq⟩
  | _ => exact ⟨ρ', hf', hq⟩
 ⟨fun hm a hf => wp_block (wp_mono (h.mu hm a hf) (key _)), fun a hf n => wpIn_block (wpIn_mono (h.jM a hf n) (key _))⟩
theorem FU {c : Operand} {x y : Code} (hc : ev ρ c = .bool true) (h : WC ro P N x Q ρ w) : WC ro P N (.cond c x y) Q ρ w :=
 ⟨fun hm a hf => wp_cond_true (by rw [hf.eval]; exact hc) (h.mu hm a hf), fun a hf n => wpIn_cond_true (by rw [hf.eval]; exact hc) (h.jM a hf n)⟩
theorem Hs {c : Operand} {x y : Code} (hc : ev ρ c = .bool false) (h : WC ro P N y Q ρ w) : WC ro P N (.cond c x y) Q ρ w :=
 ⟨fun hm a hf => wp_cond_false (by rw [hf.eval]; exact hc) (h.mu hm a hf), fun a hf n => wpIn_cond_false (by rw [hf.eval]; exact hc) (h.jM a hf n)⟩
theorem ao {id : Nat} {l : List Oper} (h : WL ro P N l.toArray Q l ρ w) : WC ro P N (.region id l.toArray false) Q ρ w :=
 ⟨fun hm a hf => wp_region_lit (h.mu hm a hf), fun a hf n => wpIn_region_lit (h.jM a hf n)⟩
theorem ai {next : Rf → World → Prop} (h : next ρ w) : cD next Q .normal ρ w := h
theorem aH {next : Rf → World → Prop} (h : Q .ret ρ w) : cD next Q .ret ρ w := h
theorem aE {next : Rf → World → Prop} {id : Nat} (h : Q (.exit id) ρ w) : cD next Q (.exit id) ρ w := h
theorem bE {id : Nat} (h : Q .normal ρ w) : qI id Q .normal ρ w := h
theorem cf {id : Nat} (h : Q .ret ρ w) : qI id Q .ret ρ w := h
theorem bC {id : Nat} (h : Q .normal ρ w) : qI id Q (.exit id) ρ w := by simpa [qI] using h
def mask (mods : List Nat) (ρ' ρ : Rf) : Rf := fun i => bif mods.contains i then ρ' i else ρ i
def iO (mods : List Nat) (ρ1 ρ : Rf) : Prop := ∀ i, mods.contains i = false → ρ1 i = ρ i
theorem eI (mods : List Nat) (ρ' ρ : Rf) : iO mods (mask mods ρ' ρ) ρ := fun i hi => by simp only [mask, hi, cond_false]
theorem fL {mods : List Nat} {ρ1 ρ : Rf} {d : Nat} {v : Value} (hd : mods.contains d = true) (h : iO mods ρ1 ρ) : iO mods (cI ρ1 d v) ρ := fun i hi => by
 rw [bp ρ1 (fun e => by rw [e, hd] at hi; cases hi)];exact h i hi
theorem dT {mods mods2 : List Nat} {ρ' ρ1 ρ : Rf} (hm : (mods2.all fun i => mods.contains i) = true) (h : iO mods ρ1 ρ) : iO mods (mask mods2 ρ' ρ1) ρ := fun i hi => by
 have h2 : mods2.contains i = false := by
  cases hc : mods2.contains i with
  | false => rfl
  | true =>
   have := Vb.1 hm i (by simpa using hc);rw [this] at hi; cases hi
 simp only [mask, h2, cond_false];exact h i hi
theorem UC {p : Prop} (h : p := by repeat (first | exact eI _ _ _ | refine fL rfl ?_ | refine dT rfl ?_)) : p := h
theorem UD {p : Prop} (h : p := by (repeat (first | exact eI _ _ _ | refine fL rfl ?_ | refine dT rfl ?_)); exact fun _ _ => rfl) : p := h
theorem iW {mods : List Nat} {ρ1 ρ : Rf} (h : iO mods ρ1 ρ) : mask mods ρ1 ρ = ρ1 := by
 funext i;simp only [mask]
 cases hc : mods.contains i with
 | true => rfl
 | false => simpa using (h i hc).symm
theorem gN (ρ : Rf) (d : Nat) : cI ρ d (ρ d) = ρ := by
 funext i;by_cases h : i = d
 ·subst h; rw [iE]
 ·rw [bp ρ h]
theorem xT {c : Code} (I : Rf → World → Prop) (μ : Rf → World → Nat) (h0 : I ρ w)
  (round : ∀ ρ w, I ρ w → WC ro P N c (cD (fun ρ' w' => I ρ' w' ∧ μ ρ' w' < μ ρ w) Q) ρ w) : WC ro P N (.loop c) Q ρ w := by
 refine ⟨fun hm a hf => ?_, fun a hf n => ?_⟩
 ·refine wp_loop (fun a w => ∃ ρ, ew N ro.D a ρ ∧ I ρ w) (fun a w => μ (fun i => a.tmps.getD i undef) w) ⟨ρ, hf, h0⟩ ?_;rintro a w ⟨ρ, hf, hi⟩;refine wp_mono ((round ρ w hi).mu hm a hf) ?_;exact Sk
 ·refine wpIn_loop (fun a w => ∃ ρ, ew N ro.D a ρ ∧ I ρ w) (fun a w => μ (fun i => a.tmps.getD i undef) w) ⟨ρ, hf, h0⟩ ?_;rintro a w ⟨ρ, hf, hi⟩;refine wpIn_mono ((round ρ w hi).jM a hf n) ?_;exact Sk
theorem aR {c : Code} (mods : List Nat) (s0 : Nat) (I : Value → World → Prop) (μ : Value → World → Nat) (h0 : I (ρ s0) w)
  (round : ∀ ρ' v0 w', I v0 w' → WC ro P N c (cD (fun ρ2 w2 => I (ρ2 s0) w2 ∧ μ (ρ2 s0) w2 < μ v0 w' ∧ iO mods ρ2 ρ) Q) (cI (mask mods ρ' ρ) s0 v0) w') : WC ro P N (.loop c) Q ρ w :=
 xT (fun ρ1 w1 => I (ρ1 s0) w1 ∧ iO mods ρ1 ρ) (fun ρ1 w1 => μ (ρ1 s0) w1) ⟨h0, fun _ _ => rfl⟩ fun ρ1 w1 ⟨hi, ha⟩ => by
  have h := round ρ1 (ρ1 s0) w1 hi;rw [iW ha, gN] at h;exact h.mono fun e ρ2 w2 hq => by
   cases e with
   | normal => exact ⟨⟨hq.1, hq.2.2⟩, hq.2.1⟩
   | _ => exact hq
theorem bK {c : Code} (mods : List Nat) (s0 s1 : Nat) (I : Value → Value → World → Prop) (μ : Value → Value → World → Nat) (h0 : I (ρ s0) (ρ s1) w)
  (round : ∀ ρ' v0 v1 w', I v0 v1 w' → WC ro P N c (cD (fun ρ2 w2 => I (ρ2 s0) (ρ2 s1) w2 ∧ μ (ρ2 s0) (ρ2 s1) w2 < μ v0 v1 w' ∧ iO mods ρ2 ρ) Q) (cI (cI (mask mods ρ' ρ) s0 v0) s1 v1) w') : WC ro P N (.loop c) Q ρ w :=
 xT (fun ρ1 w1 => I (ρ1 s0) (ρ1 s1) w1 ∧ iO mods ρ1 ρ) (fun ρ1 w1 => μ (ρ1 s0) (ρ1 s1) w1) ⟨h0, fun _ _ => rfl⟩ fun ρ1 w1 ⟨hi, ha⟩ => by
  have h := round ρ1 (ρ1 s0) (ρ1 s1) w1 hi;rw [iW ha, gN, gN] at h;exact h.mono fun e ρ2 w2 hq => by
   cases e with
   | normal => exact ⟨⟨hq.1, hq.2.2⟩, hq.2.1⟩
   | _ => exact hq
theorem zj {c : Code} (mods : List Nat) (s0 s1 s2 : Nat) (I : Value → Value → Value → World → Prop) (μ : Value → Value → Value → World → Nat) (h0 : I (ρ s0) (ρ s1) (ρ s2) w)
  (round : ∀ ρ' v0 v1 v2 w', I v0 v1 v2 w' → WC ro P N c (cD (fun ρ2 w2 => I (ρ2 s0) (ρ2 s1) (ρ2 s2) w2 ∧ μ (ρ2 s0) (ρ2 s1) (ρ2 s2) w2 < μ v0 v1 v2 w' ∧ iO mods ρ2 ρ) Q) (cI (cI (cI (mask mods ρ' ρ) s0 v0) s1 v1) s2 v2) w') : WC ro P N (.loop c) Q ρ w :=
 xT (fun ρ1 w1 => I (ρ1 s0) (ρ1 s1) (ρ1 s2) w1 ∧ iO mods ρ1 ρ) (fun ρ1 w1 => μ (ρ1 s0) (ρ1 s1) (ρ1 s2) w1) ⟨h0, fun _ _ => rfl⟩ fun ρ1 w1 ⟨hi, ha⟩ => by
  have h := round ρ1 (ρ1 s0) (ρ1 s1) (ρ1 s2) w1 hi;rw [iW ha, gN, gN, gN] at h;exact h.mono fun e ρ2 w2 hq => by
   cases e with
   | normal => exact ⟨⟨hq.1, hq.2.2⟩, hq.2.1⟩
   | _ => exact hq
end code
inductive Jp (P : Program) (ρ : Rf) (w : World) : ResultVar → Value → Prop
 | tmp (t : Tmp) {v : Value} (h : ρ t = v) : Jp P ρ w (.tmp t) v
 | cell (p : Tmp) (t : TypeId) {a : Addr} {v : Value} (hp : ρ p = .pointer (some a)) (h : (loadVar t a).run P w = .ok v w) : Jp P ρ w (.cell p t) v
def gW (P : Program) (ρ : Rf) (w : World) : List ResultVar → List Value → Prop
 | [], [] => True
 | r :: rs, v :: vs => Jp P ρ w r v ∧ gW P ρ w rs vs
 | _, _ => False
def xm : List Value → Value
 | [v] => v
 | vs => .tuple vs.toArray
def nc (P : Program) (fn : Func) (R : Ending → World → Prop) : Kq := fun e ρ w =>
 (e = .normal ∨ e = .ret) ∧ ∃ v, (∀ tmps : Array Value, (∀ i, tmps.getD i undef = ρ i) → (results fn tmps).run P w = .ok v w) ∧ R (.returned v) w
theorem Fi {P : Program} {ρ : Rf} {w : World} {f : ResultVar → Sem Value} (h1 : ∀ t, (f (.tmp t)).run P w = .ok (ρ t) w)
  (h2 : ∀ p t a v, ρ p = .pointer (some a) → (loadVar t a).run P w = .ok v w → (f (.cell p t)).run P w = .ok v w) : ∀ (rs : List ResultVar) (vs : List Value), gW P ρ w rs vs →
  (rs.mapM f).run P w = .ok vs w
 | [], [], _ => by simp
 | [], _ :: _, h => h.elim
 | _ :: _, [], h => h.elim
 | r :: rs, v :: vs, h => by
  have ih := Fi h1 h2 rs vs h.2;obtain ⟨h3, _⟩ := h;rw [List.mapM_cons]
  cases h3 with
  | tmp t hv => rw [Sem.run_bind, h1, Result.andThen_ok, Sem.run_bind, ih, Result.andThen_ok, Sem.run_pure, hv]
  | cell p t hp hl => rw [Sem.run_bind, h2 _ _ _ _ hp hl, Result.andThen_ok, Sem.run_bind, ih, Result.andThen_ok, Sem.run_pure]
theorem kH {P : Program} {fn : Func} {R : Ending → World → Prop} {ρ : Rf} {w : World} {rs : List ResultVar} {vs : List Value} {e : Exit} (he : e = .normal ∨ e = .ret) (hr : fn.results = rs.toArray)
  (hv : gW P ρ w rs vs) (h : R (.returned (xm vs)) w) : nc P fn R e ρ w := by
 refine ⟨he, xm vs, fun tmps ht => ?_, h⟩;unfold results;rw [hr, Sem.run_bind, List.mapM_toArray, Sem.run_map, Fi (ρ := ρ) (fun t => by simp [ht]) (fun p t a v hp hl => by simp [ht, hp, asAddr, hl]) rs vs hv];simp only [Result.andThen_ok]
 match vs with
 | [] => simp [xm]
 | [v] => simp [xm]
 | _ :: _ :: _ => simp [xm]
theorem gF {P : Program} {ρ : Rf} {w : World} : gW P ρ w [] [] := trivial
theorem kj {P : Program} {ρ : Rf} {w : World} {t : Tmp} {v : Value} {rs : List ResultVar} {vs : List Value} (h : ρ t = v) (k : gW P ρ w rs vs) : gW P ρ w (.tmp t :: rs) (v :: vs) := ⟨.tmp t h, k⟩
theorem eQ {P : Program} {ρ : Rf} {w : World} {p : Tmp} {t : TypeId} {a : Addr} {v : Value} {rs : List ResultVar} {vs : List Value} (hp : ρ p = .pointer (some a)) (h : (loadVar t a).run P w = .ok v w) (k : gW P ρ w rs vs) : gW P ρ w (.cell p t :: rs) (v :: vs) := ⟨.cell p t hp h, k⟩
theorem Tl {P : Program} {fn : Func} {R : Ending → World → Prop} {ρ : Rf} {w : World} {t : Tmp} {e : Exit} {v : Value} (he : e = .normal ∨ e = .ret) (hr : fn.results = #[.tmp t]) (hv : ρ t = v) (h : R (.returned v) w) : nc P fn R e ρ w :=
 kH he hr (kj hv gF) h
theorem To {P : Program} {fn : Func} {R : Ending → World → Prop} {ρ : Rf} {w : World} {t u : Tmp} {e : Exit} {v x : Value} (he : e = .normal ∨ e = .ret) (hr : fn.results = #[.tmp t, .tmp u]) (hv : ρ t = v) (hx : ρ u = x) (h : R (.returned (.tuple #[v, x])) w) : nc P fn R e ρ w :=
 kH he hr (kj hv (kj hx gF)) h
theorem SZ {P : Program} {fn : Func} {R : Ending → World → Prop} {ρ : Rf} {w : World} {t u s : Tmp} {e : Exit} {v x y : Value} (he : e = .normal ∨ e = .ret) (hr : fn.results = #[.tmp t, .tmp u, .tmp s]) (hv : ρ t = v) (hx : ρ u = x) (hy : ρ s = y) (h : R (.returned (.tuple #[v, x, y])) w) : nc P fn R e ρ w :=
 kH he hr (kj hv (kj hx (kj hy gF))) h
theorem QW {P : Program} {fn : Func} {R : Ending → World → Prop} {ρ : Rf} {w : World} {e : Exit} (he : e = .normal ∨ e = .ret) (hr : fn.results = #[]) (h : R (.returned (.tuple #[])) w) : nc P fn R e ρ w :=
 kH he hr gF h
theorem RP {P : Program} {fn : Func} {R : Ending → World → Prop} {ρ : Rf} {w : World} {r : ResultVar} {e : Exit} {v : Value} (he : e = .normal ∨ e = .ret) (hr : fn.results = #[r]) (h1 : gW P ρ w [r] [v]) (h : R (.returned v) w) : nc P fn R e ρ w :=
 kH he hr h1 h
theorem Rk {P : Program} {fn : Func} {R : Ending → World → Prop} {ρ : Rf} {w : World} {r s : ResultVar} {e : Exit} {v x : Value} (he : e = .normal ∨ e = .ret) (hr : fn.results = #[r, s]) (h1 : gW P ρ w [r, s] [v, x]) (h : R (.returned (.tuple #[v, x])) w) : nc P fn R e ρ w :=
 kH he hr h1 h
theorem Ru {P : Program} {fn : Func} {R : Ending → World → Prop} {ρ : Rf} {w : World} {r s t : ResultVar} {e : Exit} {v x y : Value} (he : e = .normal ∨ e = .ret) (hr : fn.results = #[r, s, t]) (h1 : gW P ρ w [r, s, t] [v, x, y]) (h : R (.returned (.tuple #[v, x, y])) w) : nc P fn R e ρ w :=
 kH he hr h1 h
def E1 (l : List Value) : Rf := fun i => l.getD i undef
theorem aj {P : Program} {f : FuncId} {fn : Func} {c : Code} {N : Nat} {l : List Value} {w : World} {R : Ending → World → Prop}
  (hf : P.funcs[f]? = some fn) (hb : fn.body = some c) (hn : fn.ntmps = N) (ha : l.length ≤ N)
  (h : WC .plain P N c (nc P fn R) (E1 l) w) : Calls P f l.toArray w R := by
 refine calls_of_wp hf hb ?_;refine wp_mono (h.out _ ⟨rfl, by simp [hn]; omega, fun i => ?_⟩) ?_
 ·exact PC
 ·rintro e a w' ⟨ρ', hf', he, v, hr, hR⟩
  rcases he with rfl | rfl <;> exact ⟨hf'.nd, v, hr _ hf'.at_, hR⟩
section
variable {ro : Mode} {P : Program} {N : Nat} {ops : Array Oper} {Q : Kq} {ρ : Rf} {w : World} {rest : List Oper}
theorem kZ {f : Operand → Value} {o : Oper} {x : Next} {w' : World} (ro : Option Nat) (h : (execOp f o).run P w = .ok x w') (hx : ∀ d, x ≠ .defer d) : (o.semAt ro f).run P w = .ok x w' := by
 cases hop : o.op with
 | defer c =>
  exfalso;unfold execOp at h;rw [hop] at h;simp only [Sem.run_bind] at h
  cases h2 : (resolve f c o.type).run P w with
  | ok v w2 =>
   rw [h2] at h;simp at h;exact hx _ h.1.symm
  | halt e w2 =>
   rw [h2] at h;simp [Result.andThen] at h
 | _ => rw [Oper.semAt_eq _ _ _ (by rw [hop]; intro c hc; cases hc)]; exact h
theorem Bc {r1 : Option Nat} {n : Nat} {f : FuncId} {args : Array Value} {R : Ending → World → Prop} (h : Calls P f args w R) : CallsIn (FW r1) n P f args w R := (callsIn_wide (n := n)).2 h
theorem aC (h : Q .normal ρ w) : WL ro P N ops Q [] ρ w := ⟨fun _ _ hf => wpList_nil ⟨ρ, hf, h⟩, fun _ hf _ => wpListIn_nil ⟨ρ, hf, h⟩⟩
theorem aa {next : Rf → World → Prop} {Q' : Kq} (h : next ρ w) : WL ro P N ops (cD next Q') [] ρ w := aC h
theorem aQ {o : Oper} {d : Nat} {v : Value} {w' : World} (hg : o.guard = none) (hd : o.dst = some d) (hN : d < N)
  (hr : (execOp (ev ρ) o).run P w = .ok (.value v) w') (k : WL ro P N ops Q rest (cI ρ d v) w') : WL ro P N ops Q (o :: rest) ρ w :=
 ⟨fun hm a hf => wpList_plain hg fun K hK => by
  unfold Oper.wp;rw [hf.eval, hr];show K (a.put o.dst v) w';rw [hd];exact hK _ _ (k.mu hm _ (hf.put hN v)),
 fun a hf n => wpListIn_plain hg fun K hK => by
  refine ⟨fun _ _ => trivial, ?_⟩;rw [hf.eval, kZ _ hr (fun _ h => by cases h)];show K (a.put o.dst v) w';rw [hd];exact hK _ _ (k.jM _ (hf.put hN v) n)⟩
theorem Fk {o : Oper} {w' : World} (hg : o.guard = none) (hd : o.dst = none)
  (hr : (execOp (ev ρ) o).run P w = .ok .skip w') (k : WL ro P N ops Q rest ρ w') : WL ro P N ops Q (o :: rest) ρ w :=
 ⟨fun hm a hf => wpList_plain hg fun K hK => by
  unfold Oper.wp;rw [hf.eval, hr];show K (a.put o.dst undef) w';rw [hd];exact hK _ _ (k.mu hm _ hf),
 fun a hf n => wpListIn_plain hg fun K hK => by
  refine ⟨fun _ _ => trivial, ?_⟩;rw [hf.eval, kZ _ hr (fun _ h => by cases h)];show K (a.put o.dst undef) w';rw [hd];exact hK _ _ (k.jM _ hf n)⟩
theorem z7 {o : Oper} {d : Nat} {f : FuncId} {args : Array Value} {w1 : World} {R : Ending → World → Prop} (hg : o.guard = none) (hd : o.dst = some d) (hN : d < N)
  (hr : (execOp (ev ρ) o).run P w = .ok (.enter f args) w1) (hc : Calls P f args w1 R)
  (k : ∀ e w', R e w' → ∃ v, e = .returned v ∧ WL ro P N ops Q rest (cI ρ d v) w') : WL ro P N ops Q (o :: rest) ρ w :=
 ⟨fun hm a hf => wpList_plain hg fun K hK => by
  unfold Oper.wp;rw [hf.eval, hr];show Calls P f args w1 _;refine hc.mono fun e w' hR => ?_;obtain ⟨v, rfl, hk⟩ := k e w' hR;show K (a.put o.dst v) w';rw [hd];exact hK _ _ (hk.mu hm _ (hf.put hN v)),
 fun a hf n => wpListIn_plain hg fun K hK => by
  refine ⟨fun _ _ => trivial, ?_⟩;rw [hf.eval, kZ _ hr (fun _ h => by cases h)];refine ⟨fun h => (by cases h), ?_⟩;refine Bc (hc.mono fun e w' hR => ?_);obtain ⟨v, rfl, hk⟩ := k e w' hR;show K (a.put o.dst v) w';rw [hd];exact hK _ _ (hk.jM _ (hf.put hN v) n)⟩
theorem aG {d : Option Nat} {op : Op} {ty : TypeId} {pos : String} {af : Array Edge} {j dj : Nat} {b : Bool}
  (hj : (ops[j]?).bind (·.dst) = some dj) (hv : ρ dj = .bool b) (k : WL ro P N ops Q (⟨d, op, ty, pos, af, none⟩ :: rest) ρ w) :
  WL ro P N ops Q (⟨d, op, ty, pos, af, some (j, b)⟩ :: rest) ρ w :=
 have h0 : ∀ D a, ew N D a ρ → Region.wanted ⟨d, op, ty, pos, af, some (j, b)⟩ (yielded ops a.tmps) = true := fun D a hf => by
  have h2 := hf.at_ dj;rw [hv, VR] at h2
  cases h3 : a.tmps[dj]? with
  | none => rw [h3] at h2; cases h2
  | some x =>
   rw [h3] at h2;simp only [VV] at h2;subst h2;simp [Region.wanted, yielded, hj, h3]
 ⟨fun hm a hf => by
  have h2 := k.mu hm a hf;unfold wpList at h2 ⊢;rw [UF (h0 _ a hf)];rw [UF (by simp [Region.wanted])] at h2;exact h2,
 fun a hf n => by
  have h2 := k.jM a hf n;unfold wpListIn at h2 ⊢;rw [UF (h0 _ a hf)];rw [UF (by simp [Region.wanted])] at h2;exact h2⟩
theorem kV {d : Nat} {op : Op} {ty : TypeId} {pos : String} {af : Array Edge} {j dj : Nat} {b c : Bool} (hN : d < N)
  (hj : (ops[j]?).bind (·.dst) = some dj) (hv : ρ dj = .bool c) (hb : c ≠ b) (k : WL ro P N ops Q rest (cI ρ d undef) w) :
  WL ro P N ops Q (⟨some d, op, ty, pos, af, some (j, b)⟩ :: rest) ρ w :=
 have h0 : ∀ D a, ew N D a ρ → Region.wanted ⟨some d, op, ty, pos, af, some (j, b)⟩ (yielded ops a.tmps) = false := fun D a hf => by
  have h2 := hf.at_ dj;rw [hv, VR] at h2
  cases h3 : a.tmps[dj]? with
  | none => rw [h3] at h2; cases h2
  | some x =>
   rw [h3] at h2;simp only [VV] at h2;subst h2;simp [Region.wanted, yielded, hj, h3, hb]
 ⟨fun hm a hf => by
  unfold wpList;rw [h0 _ a hf];exact k.mu hm _ (hf.put hN undef),
 fun a hf n => by
  unfold wpListIn;rw [h0 _ a hf];exact ⟨fun _ _ => trivial, k.jM _ (hf.put hN undef) n⟩⟩
def nb (v : Value) (b : Bool) : Bool := match v with | .bool c => c != b | _ => true
theorem uF {d : Nat} {op : Op} {ty : TypeId} {pos : String} {af : Array Edge} {j dj : Nat} {b : Bool} (hN : d < N)
  (hj : (ops[j]?).bind (·.dst) = some dj) (hb : nb (ρ dj) b = true) (k : WL ro P N ops Q rest (cI ρ d undef) w) :
  WL ro P N ops Q (⟨some d, op, ty, pos, af, some (j, b)⟩ :: rest) ρ w := by
 cases hv : ρ dj with
 | bool c =>
  rw [hv] at hb;exact kV hN hj hv (by simpa [nb] using hb) k
 | _ =>
  have h0 : ∀ D a, ew N D a ρ → Region.wanted ⟨some d, op, ty, pos, af, some (j, b)⟩ (yielded ops a.tmps) = false := fun D a hf => by
   have h2 := hf.at_ dj;rw [hv, VR] at h2
   cases h3 : a.tmps[dj]? with
   | none => simp [Region.wanted, yielded, hj, h3]
   | some x =>
    rw [h3] at h2;simp only [VV] at h2;subst h2;simp [Region.wanted, yielded, hj, h3]
  refine ⟨fun hm a hf => ?_, fun a hf n => ?_⟩
  ·unfold wpList;rw [h0 _ a hf];exact k.mu hm _ (hf.put hN undef)
  ·unfold wpListIn;rw [h0 _ a hf];exact ⟨fun _ _ => trivial, k.jM _ (hf.put hN undef) n⟩
end
section
variable {P : Program} {ρ : Rf} {w : World} {d : Option Nat} {ty : TypeId} {pos : String} {af : Array Edge} {g : Option (Nat × Bool)}
theorem eJ {x : Operand} {v : Value} (hx : ev ρ x = v) : (execOp (ev ρ) ⟨d, .move x, ty, pos, af, g⟩).run P w = .ok (.value v) w := by simp [execOp, hx]
theorem HU {x : Operand} {v : Value} (hx : ev ρ x = v) : (execOp (ev ρ) ⟨d, .assign x, ty, pos, af, g⟩).run P w = .ok (.value v) w := by simp [execOp, hx]
theorem zD {c a b : Operand} {v : Value} (hc : ev ρ c = .bool true) (hx : ev ρ a = v) : (execOp (ev ρ) ⟨d, .pick c a b, ty, pos, af, g⟩).run P w = .ok (.value v) w := by simp [execOp, asBool, hc, hx]
theorem BK {c a b : Operand} {v : Value} (hc : ev ρ c = .bool false) (hx : ev ρ b = v) : (execOp (ev ρ) ⟨d, .pick c a b, ty, pos, af, g⟩).run P w = .ok (.value v) w := by simp [execOp, asBool, hc, hx]
section ints
variable {t u : TypeId} {x y : Operand} {k : IntKind} {a b : Int}
theorem NV (hx : ev ρ x = .int k a) (hy : ev ρ y = .int k b) : (execOp (ev ρ) ⟨d, .binOp .add t x y u, ty, pos, af, g⟩).run P w = .ok (.value (.int k (k.wrap (a + b)))) w := by
 simp [execOp, hx, hy, eqGuard, binOp, Op.intArith]
theorem Nv (hx : ev ρ x = .int k a) (hy : ev ρ y = .int k b) : (execOp (ev ρ) ⟨d, .binOp .sub t x y u, ty, pos, af, g⟩).run P w = .ok (.value (.int k (k.wrap (a - b)))) w := by
 simp [execOp, hx, hy, eqGuard, binOp, Op.intArith]
theorem N8 (hx : ev ρ x = .int k a) (hy : ev ρ y = .int k b) : (execOp (ev ρ) ⟨d, .binOp .mul t x y u, ty, pos, af, g⟩).run P w = .ok (.value (.int k (k.wrap (a * b)))) w := by
 simp [execOp, hx, hy, eqGuard, binOp, Op.intArith]
theorem Om (hx : ev ρ x = .int k a) (hy : ev ρ y = .int k b) (hb : b ≠ 0) : (execOp (ev ρ) ⟨d, .binOp .quo t x y u, ty, pos, af, g⟩).run P w = .ok (.value (.int k (k.wrap (a.tdiv b)))) w := by
 simp [execOp, hx, hy, eqGuard, binOp, Op.intDiv, hb]
theorem Pb (hx : ev ρ x = .int k a) (hy : ev ρ y = .int k b) (hb : b ≠ 0) : (execOp (ev ρ) ⟨d, .binOp .rem t x y u, ty, pos, af, g⟩).run P w = .ok (.value (.int k (a.tmod b))) w := by
 simp [execOp, hx, hy, eqGuard, binOp, Op.intDiv, hb]
theorem OY (hx : ev ρ x = .int k a) (hy : ev ρ y = .int k b) : (execOp (ev ρ) ⟨d, .binOp .and t x y u, ty, pos, af, g⟩).run P w = .ok (.value (.int k (k.wrap (BitVec.ofInt k.bits a &&& BitVec.ofInt k.bits b).toNat))) w := by
 simp [execOp, hx, hy, eqGuard, binOp, Op.intBits]
theorem Tb (hx : ev ρ x = .int k a) (hy : ev ρ y = .int k b) : (execOp (ev ρ) ⟨d, .binOp .or t x y u, ty, pos, af, g⟩).run P w = .ok (.value (.int k (k.wrap (BitVec.ofInt k.bits a ||| BitVec.ofInt k.bits b).toNat))) w := by
 simp [execOp, hx, hy, eqGuard, binOp, Op.intBits]
theorem R6 {k' : IntKind} (hx : ev ρ x = .int k a) (hy : ev ρ y = .int k' b) (hb : 0 ≤ b) : (execOp (ev ρ) ⟨d, .binOp .shl t x y u, ty, pos, af, g⟩).run P w = .ok (.value (.int k (k.wrap (a * 2 ^ (min b.toNat k.bits))))) w := by
 simp [execOp, hx, hy, eqGuard, binOp, Op.shift, show ¬ b < 0 by omega]
theorem Rx {k' : IntKind} (hx : ev ρ x = .int k a) (hy : ev ρ y = .int k' b) (hb : 0 ≤ b) : (execOp (ev ρ) ⟨d, .binOp .shr t x y u, ty, pos, af, g⟩).run P w = .ok (.value (.int k (a.fdiv (2 ^ (min b.toNat k.bits))))) w := by
 simp [execOp, hx, hy, eqGuard, binOp, Op.shift, show ¬ b < 0 by omega]
theorem Bi {op : BinOp} : (eqGuard op t x y (.int k a) (.int k b)).run P w = .ok () w := by
 unfold eqGuard; cases op <;> simp
theorem m7 {op : BinOp} {r : Bool} (hx : ev ρ x = .int k a) (hy : ev ρ y = .int k b) (hop : (Op.intCmp op a b).run P w = .ok (.bool r) w) (hc : op = .eql ∨ op = .neq ∨ op = .lss ∨ op = .leq ∨ op = .gtr ∨ op = .geq) :
  (execOp (ev ρ) ⟨d, .binOp op t x y u, ty, pos, af, g⟩).run P w = .ok (.value (.bool r)) w := by
 rcases hc with h | h | h | h | h | h <;> subst h <;> simp [execOp, hx, hy, Bi, binOp, hop]
theorem MZ (hx : ev ρ x = .int k a) (hy : ev ρ y = .int k b) (h : a < b) : (execOp (ev ρ) ⟨d, .binOp .lss t x y u, ty, pos, af, g⟩).run P w = .ok (.value (.bool true)) w :=
 m7 hx hy (by simp [Op.intCmp, h]) (by simp)
theorem Ni (hx : ev ρ x = .int k a) (hy : ev ρ y = .int k b) (h : ¬ a < b) : (execOp (ev ρ) ⟨d, .binOp .lss t x y u, ty, pos, af, g⟩).run P w = .ok (.value (.bool false)) w :=
 m7 hx hy (by simp [Op.intCmp]; omega) (by simp)
theorem My (hx : ev ρ x = .int k a) (hy : ev ρ y = .int k b) (h : a ≤ b) : (execOp (ev ρ) ⟨d, .binOp .leq t x y u, ty, pos, af, g⟩).run P w = .ok (.value (.bool true)) w :=
 m7 hx hy (by simp [Op.intCmp, h]) (by simp)
theorem Md (hx : ev ρ x = .int k a) (hy : ev ρ y = .int k b) (h : ¬ a ≤ b) : (execOp (ev ρ) ⟨d, .binOp .leq t x y u, ty, pos, af, g⟩).run P w = .ok (.value (.bool false)) w :=
 m7 hx hy (by simp [Op.intCmp]; omega) (by simp)
theorem MJ (hx : ev ρ x = .int k a) (hy : ev ρ y = .int k b) (h : b < a) : (execOp (ev ρ) ⟨d, .binOp .gtr t x y u, ty, pos, af, g⟩).run P w = .ok (.value (.bool true)) w :=
 m7 hx hy (by simp [Op.intCmp, h]) (by simp)
theorem Lc (hx : ev ρ x = .int k a) (hy : ev ρ y = .int k b) (h : ¬ b < a) : (execOp (ev ρ) ⟨d, .binOp .gtr t x y u, ty, pos, af, g⟩).run P w = .ok (.value (.bool false)) w :=
 m7 hx hy (by simp [Op.intCmp]; omega) (by simp)
theorem Ml (hx : ev ρ x = .int k a) (hy : ev ρ y = .int k b) (h : b ≤ a) : (execOp (ev ρ) ⟨d, .binOp .geq t x y u, ty, pos, af, g⟩).run P w = .ok (.value (.bool true)) w :=
 m7 hx hy (by simp [Op.intCmp, h]) (by simp)
theorem MY (hx : ev ρ x = .int k a) (hy : ev ρ y = .int k b) (h : ¬ b ≤ a) : (execOp (ev ρ) ⟨d, .binOp .geq t x y u, ty, pos, af, g⟩).run P w = .ok (.value (.bool false)) w :=
 m7 hx hy (by simp [Op.intCmp]; omega) (by simp)
theorem Lz (hx : ev ρ x = .int k a) (hy : ev ρ y = .int k b) (h : a ≠ b) : (execOp (ev ρ) ⟨d, .binOp .neq t x y u, ty, pos, af, g⟩).run P w = .ok (.value (.bool true)) w :=
 m7 hx hy (by simp [Op.intCmp, h]) (by simp)
theorem LM (hx : ev ρ x = .int k a) (hy : ev ρ y = .int k b) (h : a = b) : (execOp (ev ρ) ⟨d, .binOp .neq t x y u, ty, pos, af, g⟩).run P w = .ok (.value (.bool false)) w :=
 m7 hx hy (by simp [Op.intCmp, h]) (by simp)
theorem ET (hx : ev ρ x = .int k a) (hy : ev ρ y = .int k b) : (execOp (ev ρ) ⟨d, .binOp .eql t x y u, ty, pos, af, g⟩).run P w = .ok (.value (.bool (decide (a = b)))) w :=
 m7 hx hy (by simp [Op.intCmp]; rw [Bool.eq_iff_iff]; simp) (by simp)
theorem NI (hx : ev ρ x = .int k a) : (execOp (ev ρ) ⟨d, .unOp .neg t x, ty, pos, af, g⟩).run P w = .ok (.value (.int k (k.wrap (-a)))) w := by
 simp [execOp, hx, Op.unary, Op.intArith]
theorem ka {n : Int} (h1 : -9223372036854775808 ≤ n) (h2 : n ≤ 9223372036854775807) : IntKind.i64.wrap n = n := IntWalk.i64_in n ⟨h1, h2⟩
theorem H3 (hx : ev ρ x = .int .i64 a) (hy : ev ρ y = .int .i64 b) (h1 : -9223372036854775808 ≤ a + b) (h2 : a + b ≤ 9223372036854775807) : (execOp (ev ρ) ⟨d, .binOp .add t x y u, ty, pos, af, g⟩).run P w = .ok (.value (.int .i64 (a + b))) w := by
 rw [NV hx hy, ka h1 h2]
theorem ID (hx : ev ρ x = .int .i64 a) (hy : ev ρ y = .int .i64 b) (h1 : -9223372036854775808 ≤ a - b) (h2 : a - b ≤ 9223372036854775807) : (execOp (ev ρ) ⟨d, .binOp .sub t x y u, ty, pos, af, g⟩).run P w = .ok (.value (.int .i64 (a - b))) w := by
 rw [Nv hx hy, ka h1 h2]
theorem JX (hx : ev ρ x = .int .i64 a) (hy : ev ρ y = .int .i64 b) (h1 : -9223372036854775808 ≤ a * b) (h2 : a * b ≤ 9223372036854775807) : (execOp (ev ρ) ⟨d, .binOp .mul t x y u, ty, pos, af, g⟩).run P w = .ok (.value (.int .i64 (a * b))) w := by
 rw [N8 hx hy, ka h1 h2]
theorem Jg (hx : ev ρ x = .int .i64 a) (h1 : -9223372036854775808 ≤ -a) (h2 : -a ≤ 9223372036854775807) : (execOp (ev ρ) ⟨d, .unOp .neg t x, ty, pos, af, g⟩).run P w = .ok (.value (.int .i64 (-a))) w := by
 rw [NI hx, ka h1 h2]
theorem qE (hx : ev ρ x = .int .i64 a) (hy : ev ρ y = .int .i64 b) (ha : 0 ≤ a) (hb : 0 < b) (h2 : a ≤ 9223372036854775807) : (execOp (ev ρ) ⟨d, .binOp .quo t x y u, ty, pos, af, g⟩).run P w = .ok (.value (.int .i64 (a / b))) w := by
 have h3 : a / b ≤ a := Int.ediv_le_self b ha;have h4 : 0 ≤ a / b := Int.ediv_nonneg ha Uz;rw [Om hx hy Uz, Int.tdiv_eq_ediv_of_nonneg ha, ka Uz Uz]
theorem oM (hx : ev ρ x = .int .i64 a) (hy : ev ρ y = .int .i64 b) (ha : 0 ≤ a) (hb : 0 < b) : (execOp (ev ρ) ⟨d, .binOp .rem t x y u, ty, pos, af, g⟩).run P w = .ok (.value (.int .i64 (a % b))) w := by
 rw [Pb hx hy Uz, Int.tmod_eq_emod_of_nonneg ha]
end ints
theorem OZ {t : TypeId} {x : Operand} {b : Bool} (hx : ev ρ x = .bool b) : (execOp (ev ρ) ⟨d, .unOp .not t x, ty, pos, af, g⟩).run P w = .ok (.value (.bool !b)) w := by
 simp [execOp, hx, Op.unary]
section bools
variable {t u : TypeId} {x y : Operand} {a b : Bool}
theorem xV (n : Nat) (ht : P.underlying t = some .bool) : (Op.equalIn (n + 1) t (.bool a) (.bool b)).run P w = .ok (a == b) w := by
 simp [Op.equalIn, run_underlying ht]
theorem tN (ht : P.underlying t = some .bool) : (Op.equal t (.bool a) (.bool b)).run P w = .ok (a == b) w := xV 9999 ht
theorem uK (ht : P.underlying t = some .bool) : (binOp .eql t (.bool a) (.bool b)).run P w = .ok (.bool (a == b)) w := by
 simp only [binOp];simp [tN ht]
theorem uQ (ht : P.underlying t = some .bool) : (binOp .neq t (.bool a) (.bool b)).run P w = .ok (.bool (a != b)) w := by
 simp only [binOp];simp [tN ht, bne]
theorem vm (ht : P.underlying t = some .bool) (hx : ev ρ x = .bool a) (hy : ev ρ y = .bool b) : (execOp (ev ρ) ⟨d, .binOp .eql t x y u, ty, pos, af, g⟩).run P w = .ok (.value (.bool (a == b))) w := by
 simp only [execOp, hx, hy, eqGuard];simp [uK ht]
theorem oB (ht : P.underlying t = some .bool) (hx : ev ρ x = .bool a) (hy : ev ρ y = .bool b) : (execOp (ev ρ) ⟨d, .binOp .neq t x y u, ty, pos, af, g⟩).run P w = .ok (.value (.bool (a != b))) w := by
 simp only [execOp, hx, hy, eqGuard];simp [uQ ht]
end bools
section lS
variable {t u : TypeId} {x y : Operand} {a b : ByteArray}
theorem y4 {op : BinOp} : (eqGuard op t x y (.string a) (.string b)).run P w = .ok () w := by
 unfold eqGuard; cases op <;> simp
theorem AE {op : BinOp} {r : Value} (hx : ev ρ x = .string a) (hy : ev ρ y = .string b) (hs : op ≠ .shl ∧ op ≠ .shr) (hop : (Op.stringOp op a b).run P w = .ok r w) :
  (execOp (ev ρ) ⟨d, .binOp op t x y u, ty, pos, af, g⟩).run P w = .ok (.value r) w := by
 cases op <;> simp_all [execOp, y4, binOp]
theorem xb (hx : ev ρ x = .string a) (hy : ev ρ y = .string b) : (execOp (ev ρ) ⟨d, .binOp .eql t x y u, ty, pos, af, g⟩).run P w = .ok (.value (.bool (a.toList == b.toList))) w :=
 AE hx hy (by simp) (by simp [Op.stringOp])
theorem vZ (hx : ev ρ x = .string a) (hy : ev ρ y = .string b) : (execOp (ev ρ) ⟨d, .binOp .neq t x y u, ty, pos, af, g⟩).run P w = .ok (.value (.bool !(a.toList == b.toList))) w :=
 AE hx hy (by simp) (by simp [Op.stringOp])
theorem J6 {a b : ByteArray} : (a.toList == b.toList) = decide (a = b) := by
 have key : ∀ s : ByteArray, s.toList = s.data.toList := fun s => by
  exact Q4
 rw [Bool.eq_iff_iff, Wl, U2, key, key];constructor
 ·intro h; cases a; cases b; congr 1; exact Xj h
 ·intro h; rw [h]
theorem zY (hx : ev ρ x = .string a) (hy : ev ρ y = .string b) (h : a = b) : (execOp (ev ρ) ⟨d, .binOp .eql t x y u, ty, pos, af, g⟩).run P w = .ok (.value (.bool true)) w := by
 rw [xb hx hy, J6]; simp [h]
theorem AY (hx : ev ρ x = .string a) (hy : ev ρ y = .string b) (h : ¬ a = b) : (execOp (ev ρ) ⟨d, .binOp .eql t x y u, ty, pos, af, g⟩).run P w = .ok (.value (.bool false)) w := by
 rw [xb hx hy, J6]; simp [h]
theorem za (hx : ev ρ x = .string a) (hy : ev ρ y = .string b) (h : ¬ a = b) : (execOp (ev ρ) ⟨d, .binOp .neq t x y u, ty, pos, af, g⟩).run P w = .ok (.value (.bool true)) w := by
 rw [vZ hx hy, J6]; simp [h]
theorem Ay (hx : ev ρ x = .string a) (hy : ev ρ y = .string b) (h : a = b) : (execOp (ev ρ) ⟨d, .binOp .neq t x y u, ty, pos, af, g⟩).run P w = .ok (.value (.bool false)) w := by
 rw [vZ hx hy, J6]; simp [h]
theorem Hb (hx : ev ρ x = .string a) (hy : ev ρ y = .string b) : (execOp (ev ρ) ⟨d, .binOp .lss t x y u, ty, pos, af, g⟩).run P w = .ok (.value (.bool (Op.bytesLess a.toList b.toList))) w :=
 AE hx hy (by simp) (by simp [Op.stringOp])
theorem Gy (hx : ev ρ x = .string a) (hy : ev ρ y = .string b) : (execOp (ev ρ) ⟨d, .binOp .gtr t x y u, ty, pos, af, g⟩).run P w = .ok (.value (.bool !(Op.bytesLess a.toList b.toList || a.toList == b.toList))) w :=
 AE hx hy (by simp) (by simp [Op.stringOp])
theorem F4 (hx : ev ρ x = .string a) (hy : ev ρ y = .string b) : (execOp (ev ρ) ⟨d, .binOp .geq t x y u, ty, pos, af, g⟩).run P w = .ok (.value (.bool !(Op.bytesLess a.toList b.toList))) w :=
 AE hx hy (by simp) (by simp [Op.stringOp])
end lS
theorem lP {s t : TypeId} {x : Operand} {k k' : IntKind} {a : Int} {sd : TypeDesc} (hs : P.underlying s = some sd) (ht : P.underlying t = some (.int k)) (hx : ev ρ x = .int k' a) :
  (execOp (ev ρ) ⟨d, .convert s t x, ty, pos, af, g⟩).run P w = .ok (.value (.int k (k.wrap a))) w := by
 simp [execOp, hx, convert, run_underlying hs, run_underlying ht, Conv.intToInt]
theorem CD {s t : TypeId} {x : Operand} {k' : IntKind} {a : Int} {sd : TypeDesc} (hs : P.underlying s = some sd) (ht : P.underlying t = some (.int .i64)) (hx : ev ρ x = .int k' a) (h1 : -9223372036854775808 ≤ a) (h2 : a ≤ 9223372036854775807) :
  (execOp (ev ρ) ⟨d, .convert s t x, ty, pos, af, g⟩).run P w = .ok (.value (.int .i64 a)) w := by
 rw [lP hs ht hx, ka h1 h2]
theorem fH {x : Operand} {i : Nat} {vs : List Value} {v : Value} (hx : ev ρ x = .tuple vs.toArray) (hv : vs[i]? = some v) :
  (execOp (ev ρ) ⟨d, .extract x i, ty, pos, af, g⟩).run P w = .ok (.value v) w := by
 simp [execOp, hx, Instr.extract, hv]
def xf (ρ : Rf) : List Operand → List Value
 | [] => []
 | x :: l => ev ρ x :: xf ρ l
theorem nB {ρ : Rf} (args : Array Operand) {vs : List Value} (h : xf ρ args.toList = vs) : args.map (ev ρ) = vs.toArray := by
 have h1 : ∀ l : List Operand, l.map (ev ρ) = xf ρ l := by
  intro l
  induction l with
  | nil => rfl
  | cons a l ih => simp only [U9, ih]; rfl
 subst h;rw [← h1];apply Xj;simp
theorem Cl {fn : Fn} {first captured : Array Operand} {fs cs : List Value} (hf : xf ρ first.toList = fs) (hc : xf ρ captured.toList = cs) :
  (execOp (ev ρ) ⟨d, .makeFunc fn first captured, ty, pos, af, g⟩).run P w = .ok (.value (.func fn fs.toArray cs.toArray)) w := by
 simp [execOp, nB _ hf, nB _ hc, Instr.makeFunc]
theorem lI {i : Nat} {k : IntKind} {n : Int} (h : ρ i = .int k n) : ρ i = .int k n := h
theorem mG {i : Nat} {b : Bool} (h : ρ i = .bool b) : ρ i = .bool b := h
theorem wj {i : Nat} {s : ByteArray} (h : ρ i = .string s) : ρ i = .string s := h
theorem G0 {i : Nat} {A : Option Addr} {n c : Nat} (h : ρ i = .slice A n c) : ρ i = .slice A n c := h
theorem cK {x : Operand} {k : IntKind} {n : Int} (h : ev ρ x = .int k n) : ev ρ x = .int k n := h
theorem sS {x : Operand} {b : Bool} (h : ev ρ x = .bool b) : ev ρ x = .bool b := h
theorem B5 {x : Operand} {s : ByteArray} (h : ev ρ x = .string s) : ev ρ x = .string s := h
theorem Fo {x : Operand} {A : Option Addr} {n c : Nat} (h : ev ρ x = .slice A n c) : ev ρ x = .slice A n c := h
theorem Dd {x : Operand} {a : Addr} (h : ev ρ x = .pointer (some a)) : ev ρ x = .pointer (some a) := h
theorem gU {x : Operand} {l : List Value} (h : ev ρ x = .agg l.toArray) : ev ρ x = .agg l.toArray := h
theorem P1 {x : Operand} {l : List Value} (h : ev ρ x = .tuple l.toArray) : ev ρ x = .tuple l.toArray := h
theorem sY {x : Operand} {f : Fn} {a b : List Value} (h : ev ρ x = .func f a.toArray b.toArray) : ev ρ x = .func f a.toArray b.toArray := h
theorem sZ {x : Operand} (h : ev ρ x = .nilFunc) : ev ρ x = .nilFunc := h
theorem F0 {x : Operand} {t : TypeId} {s : ByteArray} (ht : P.underlying t = some .string) (hx : ev ρ x = .string s) :
  (execOp (ev ρ) ⟨d, .call ⟨.builtin .len, #[x], #[t]⟩, ty, pos, af, g⟩).run P w = .ok (.value (.int .i64 s.size)) w := by
 simp [execOp, resolve, invoke, builtin, Builtin.len_, hx, run_underlying ht, goInt]
theorem As {x : Operand} {t e : TypeId} {A : Option Addr} {n c : Nat} (ht : P.underlying t = some (.slice e)) (hx : ev ρ x = .slice A n c) :
  (execOp (ev ρ) ⟨d, .call ⟨.builtin .len, #[x], #[t]⟩, ty, pos, af, g⟩).run P w = .ok (.value (.int .i64 n)) w := by
 simp [execOp, resolve, invoke, builtin, Builtin.len_, hx, run_underlying ht, goInt]
theorem R7 {x y : Operand} {ts : Array TypeId} {k : IntKind} {a b : Int} (hx : ev ρ x = .int k a) (hy : ev ρ y = .int k b) :
  (execOp (ev ρ) ⟨d, .call ⟨.builtin .min, #[x, y], ts⟩, ty, pos, af, g⟩).run P w = .ok (.value (.int k (if b < a then b else a))) w := by
 simp [execOp, resolve, invoke, builtin, Builtin.min_, Builtin.min2, hx, hy, List.foldlM]
theorem Ow {x y : Operand} {ts : Array TypeId} {k : IntKind} {a b : Int} (hx : ev ρ x = .int k a) (hy : ev ρ y = .int k b) :
  (execOp (ev ρ) ⟨d, .call ⟨.builtin .max, #[x, y], ts⟩, ty, pos, af, g⟩).run P w = .ok (.value (.int k (if b > a then b else a))) w := by
 simp [execOp, resolve, invoke, builtin, Builtin.max_, Builtin.max2, hx, hy, List.foldlM]
theorem rH {t : TypeId} {x i : Operand} {s : ByteArray} {n : Int} {k : IntKind} {c : UInt8} (ht : P.underlying t = some .string) (hx : ev ρ x = .string s) (hi : ev ρ i = .int k n)
  (h0 : 0 ≤ n) (hc : s.data.toList[n.toNat]? = some c) : (execOp (ev ρ) ⟨d, .index t x i, ty, pos, af, g⟩).run P w = .ok (.value (.int .u8 c.toNat)) w := by
 have hs : s[n.toNat]? = some c := by
  rw [← hc];obtain ⟨h1, h2⟩ := UW.1 hc;have h3 : n.toNat < s.size := by simpa using h1
  rw [getElem?_pos s n.toNat h3, getElem?_pos s.data.toList n.toNat h1]
  rfl
 simp [execOp, hx, hi, Instr.index, asIntOf, run_underlying ht, h0, hs]
theorem B0 {t : TypeId} {x : Operand} {lo hi : Option Operand} {s : ByteArray} {l h : Nat} (ht : P.underlying t = some .string) (hx : ev ρ x = .string s)
  (hlo : match lo with | none => l = 0 | some o => ∃ (k : IntKind) (n : Int), ev ρ o = .int k n ∧ n = l) (hhi : match hi with | none => h = s.size | some o => ∃ (k : IntKind) (n : Int), ev ρ o = .int k n ∧ n = h)
  (h1 : l ≤ h) (h2 : h ≤ s.size) : (execOp (ev ρ) ⟨d, .slice t x lo hi none, ty, pos, af, g⟩).run P w = .ok (.value (.string (s.extract l h))) w := by
 have e1 : (l : Int) ≤ h := Uz;have e2 : (h : Int) ≤ s.size := Uz
 cases lo <;> cases hi <;> simp only [] at hlo hhi
 ·subst hlo; subst hhi;simp [execOp, hx, Instr.sliceAt, Instr.slice, run_underlying ht, Instr.sliceBounds]
 ·obtain ⟨k2, n2, hv2, rfl⟩ := hhi;subst hlo;simp [execOp, hx, Instr.sliceAt, Instr.slice, run_underlying ht, Instr.sliceBounds, Instr.sliceBound, asIntOf, hv2, h2]
 ·obtain ⟨k2, n2, hv2, rfl⟩ := hlo;subst hhi;simp [execOp, hx, Instr.sliceAt, Instr.slice, run_underlying ht, Instr.sliceBounds, Instr.sliceBound, asIntOf, hv2, h1]
 ·obtain ⟨k2, n2, hv2, rfl⟩ := hhi;obtain ⟨k3, n3, hv3, rfl⟩ := hlo;simp [execOp, hx, Instr.sliceAt, Instr.slice, run_underlying ht, Instr.sliceBounds, Instr.sliceBound, asIntOf, hv2, hv3, h1, h2]
theorem jf {t e : TypeId} {x : Operand} {lo hi : Option Operand} {A : Option Addr} {n c l h sz : Nat} (ht : P.underlying t = some (.slice e)) (hsz : (P.info? e).map (·.size) = some sz) (hx : ev ρ x = .slice A n c)
  (hlo : match lo with | none => l = 0 | some o => ∃ (k : IntKind) (n : Int), ev ρ o = .int k n ∧ n = l) (hhi : match hi with | none => h = n | some o => ∃ (k : IntKind) (n : Int), ev ρ o = .int k n ∧ n = h)
  (h1 : l ≤ h) (h2 : h ≤ c) : (execOp (ev ρ) ⟨d, .slice t x lo hi none, ty, pos, af, g⟩).run P w = .ok (.value (.slice (if c = l then A else A.map (·.add (l * sz))) (h - l) (c - l))) w := by
 obtain ⟨i, hi1, hi2⟩ := Wc.1 hsz;have e1 : (l : Int) ≤ h := Uz;have e2 : (h : Int) ≤ c := Uz
 cases lo <;> cases hi <;> simp only [] at hlo hhi
 ·subst hlo; subst hhi;simp [execOp, hx, Instr.sliceAt, Instr.slice, run_underlying ht, Instr.sliceBounds, sizeOf, typeInfo, hi1]
 ·obtain ⟨k2, n2, hv2, rfl⟩ := hhi;subst hlo;simp [execOp, hx, Instr.sliceAt, Instr.slice, run_underlying ht, Instr.sliceBounds, Instr.sliceBound, asIntOf, hv2, h2, sizeOf, typeInfo, hi1]
 ·obtain ⟨k2, n2, hv2, rfl⟩ := hlo;subst hhi;simp [execOp, hx, Instr.sliceAt, Instr.slice, run_underlying ht, Instr.sliceBounds, Instr.sliceBound, asIntOf, hv2, h1, sizeOf, typeInfo, hi1, hi2]
 ·obtain ⟨k2, n2, hv2, rfl⟩ := hhi;obtain ⟨k3, n3, hv3, rfl⟩ := hlo;simp [execOp, hx, Instr.sliceAt, Instr.slice, run_underlying ht, Instr.sliceBounds, Instr.sliceBound, asIntOf, hv2, hv3, h1, h2, sizeOf, typeInfo, hi1, hi2]
theorem dA {t e : TypeId} {x i : Operand} {ad : Addr} {n c sz : Nat} {k : IntKind} {m : Int} (ht : P.underlying t = some (.slice e)) (hsz : (P.info? e).map (·.size) = some sz) (hx : ev ρ x = .slice (some ad) n c) (hi : ev ρ i = .int k m)
  (h0 : 0 ≤ m) (h1 : m < n) : (execOp (ev ρ) ⟨d, .indexAddr t x i, ty, pos, af, g⟩).run P w = .ok (.value (.pointer (some (ad.add (m.toNat * sz))))) w := by
 obtain ⟨i, hi1, hi2⟩ := Wc.1 hsz;simp [execOp, hx, hi, Instr.indexAt, asIntOf, run_underlying ht, sizeOf, typeInfo, hi1, hi2, h0, h1]
theorem oU {t e : TypeId} {x i : Operand} {b n c sz k : Nat} {kk : IntKind} {m : Int} (ht : P.underlying t = some (.slice e)) (hsz : (P.info? e).map (·.size) = some sz) (hx : ev ρ x = .slice (some ⟨b, 0, none⟩) n c) (hi : ev ρ i = .int kk m)
  (hm : m = (k : Int)) (h1 : k < n) : (execOp (ev ρ) ⟨d, .indexAddr t x i, ty, pos, af, g⟩).run P w = .ok (.value (.pointer (some ⟨b, k * sz, none⟩))) w := by
 have h := dA (P := P) (w := w) (d := d) (ty := ty) (pos := pos) (af := af) (g := g) ht hsz hx hi Uz Uz;rw [h, hm];have : (⟨b, 0, none⟩ : Addr).add (((k : Int)).toNat * sz) = ⟨b, k * sz, none⟩ := by
  unfold Addr.add;split
  ·rename_i h0;rw [V8] at h0;rw [h0]
  ·rw [V8]; simp
 rw [this]
theorem Jy {x : Operand} {args : Array Operand} {ts : Array TypeId} {f : FuncId} {fn : Func} {first cap : Array Value} {vs : Array Value} (hf : P.funcs[f]? = some fn) (hb : fn.body.isNone = false) (hn : (fn.name == "runtime.NumGoroutine") = false)
  (hx : ev ρ x = .func (.func f) first cap) (ha : args.map (ev ρ) = vs) : (execOp (ev ρ) ⟨d, .call ⟨.value x, args, ts⟩, ty, pos, af, g⟩).run P w = .ok (.enter f (first ++ vs ++ cap)) w := by
 have h1 : ¬ fn.name = "runtime.NumGoroutine" := by simpa using hn
 have h2 : ¬ fn.body = none := by intro h; simp [h] at hb
 simp [execOp, resolve, Deferred.ofValue, hx, ha, invoke, callFunc, program, Sem.run, hf, h1, h2]
end
def dr (P : Program) (t : TypeId) : Option (Nat × Bool × Nat × List Value) :=
 match P.info? t, P.underlying t with
 | some i, some d => i.zero.map fun z => (i.size, (match d with | .struct _ | .array _ _ => true | _ => false), i.bytes, z.cells.toList)
 | _, _ => none
theorem eG {P : Program} {t : TypeId} {n by' : Nat} {ag : Bool} {zc : List Value} (h : dr P t = some (n, ag, by', zc)) :
  ∃ i z d, P.info? t = some i ∧ P.underlying t = some d ∧ i.zero = some z ∧ i.size = n ∧ i.bytes = by' ∧ z.cells = zc.toArray ∧ (match d with | .struct _ | .array _ _ => true | _ => false) = ag := by
 unfold dr at h;split at h
 ·rename_i i d hi hd;obtain ⟨z, hz, he⟩ := Wc.1 h;simp only [Prod.mk.injEq] at he;exact ⟨i, z, d, hi, hd, hz, he.1, he.2.2.1, by rw [← he.2.2.2], he.2.1⟩
 ·cases h
section
variable {P : Program} {w : World} {t : TypeId} {n by' : Nat} {ag : Bool} {zc : List Value}
theorem e9 (h : dr P t = some (n, ag, by', zc)) : (sizeOf t).run P w = .ok n w := by
 obtain ⟨i, z, d, hi, hd, hz, hs, _⟩ := eG h;simp [sizeOf, typeInfo, hi, hs]
theorem iS (h : dr P t = some (n, ag, by', zc)) : (isAgg t).run P w = .ok ag w := by
 obtain ⟨i, z, d, hi, hd, hz, hs, _, _, ha⟩ := eG h;simp only [isAgg, Sem.run_bind, run_underlying hd, Result.andThen_ok];subst ha
 cases d <;> rfl
theorem dF (h : dr P t = some (n, ag, by', zc)) : ∃ z, (zeroValue t).run P w = .ok z w ∧ z.cells = zc.toArray := by
 obtain ⟨i, z, d, hi, hd, hz, hs, _, hc, _⟩ := eG h;exact ⟨z, by simp [zeroValue, typeInfo, hi, hz], hc⟩
end
def Rd (w : World) (ad : Addr) (vs : List Value) : Prop := ∀ j u, vs[j]? = some u → w.cell? (ad.add j) = some u
def Sl (w : World) (A : Option Addr) (n k : Nat) (xs : List Value) : Prop := xs.length = n * k ∧ (0 < n → ∃ ad, A = some ad ∧ Rd w ad xs)
theorem fD (b o n : Nat) : (⟨b, o, none⟩ : Addr).add n = ⟨b, o + n, none⟩ := by
 unfold Addr.add;split
 ·rename_i h; subst h; rfl
 ·rfl
theorem l5 (a : Addr) (i j : Nat) : (a.add i).add j = a.add (i + j) := by
 unfold Addr.add;by_cases hi : i = 0 <;> by_cases hj : j = 0 <;> simp [hi, hj, Xi]
theorem lQ {w : World} {a : Addr} {v : Value} (h : w.cell? a = some v) : a.block < w.heap.size := block_lt_of_cell h
theorem cL {w w' : World} (h : Below w.heap.size w w') {a : Addr} {v : Value} (hc : w.cell? a = some v) : w'.cell? a = some v := (h.cell (lQ hc)).trans hc
theorem Rd.ext {w w' : World} {ad : Addr} {vs : List Value} (h : Rd w ad vs) (hb : Below w.heap.size w w') : Rd w' ad vs := fun j u hu => cL hb (h j u hu)
theorem Sl.ext {w w' : World} {A : Option Addr} {n k : Nat} {xs : List Value} (h : Sl w A n k xs) (hb : Below w.heap.size w w') : Sl w' A n k xs :=
 ⟨h.1, fun hn => let ⟨ad, ha, hr⟩ := h.2 hn; ⟨ad, ha, hr.ext hb⟩⟩
theorem Rd.drop {w : World} {ad : Addr} {vs : List Value} (h : Rd w ad vs) (i : Nat) : Rd w (ad.add i) (vs.drop i) := fun j u hu => by
 rw [l5];exact h _ u (by rw [← hu, Wt])
theorem Rd.take {w : World} {ad : Addr} {vs : List Value} (h : Rd w ad vs) (n : Nat) : Rd w ad (vs.take n) := fun j u hu => by
 rw [Wq] at hu;split at hu
 ·exact h _ u hu
 ·cases hu
theorem Rd.cell {w : World} {ad : Addr} {vs : List Value} (h : Rd w ad vs) {i : Nat} {v : Value} (hv : vs[i]? = some v) : w.cell? (ad.add i) = some v := h i v hv
theorem Sl.nil (w : World) (A : Option Addr) (k : Nat) : Sl w A 0 k [] := ⟨by simp, fun h => absurd h Uz⟩
theorem Sl.at_ {w : World} {A : Option Addr} {n k : Nat} {xs : List Value} (h : Sl w A n k xs) (hn : 0 < n) : ∃ ad, A = some ad ∧ Rd w ad xs := h.2 hn
theorem Rd.elem {w : World} {ad : Addr} {xs : List Value} (h : Rd w ad xs) (i k : Nat) : Rd w (ad.add (i * k)) ((xs.drop (i * k)).take k) := (h.drop _).take _
theorem Sl.cut {w : World} {A : Option Addr} {n k c l m : Nat} {xs : List Value} (h : Sl w A n k xs) (hl : l ≤ m) (hm : m ≤ n) (hc : n ≤ c) :
  Sl w (if c = l then A else A.map (·.add (l * k))) (m - l) k ((xs.drop (l * k)).take ((m - l) * k)) := by
 have hle : l * k + (m - l) * k ≤ n * k := by
  rw [← WJ];exact VG _ Uz
 refine ⟨by rw [U6, VY, h.1]; omega, fun hn => ?_⟩;obtain ⟨ad, rfl, hr⟩ := h.2 Uz;rw [UE Uz];exact ⟨_, rfl, (hr.drop _).take _⟩
inductive HE where
 | blk (b : Nat) (t : TypeId) (cs : List Value) (fz : Nat × Nat)
 | row (A : Option Addr) (n c : Nat) (t : TypeId) (sz : Nat) (xs : List Value)
 | ob (b : Nat) (o : Obj)
abbrev HE.it (b : Nat) (s : ByteArray) (pos : Nat) : HE := .ob b (.stringIter s pos)
def HE.id : HE → Option Nat
 | .blk b _ _ _ => some b
 | .row A _ _ _ _ _ => A.map (·.block)
 | .ob b _ => some b
def HE.holds (base : Nat) (w : World) : HE → Prop
 | .blk b t cs fz => base ≤ b ∧ w.heap[b]? = some (.cells cs.toArray t fz) ∧ (cs.length ≤ fz.1 ∨ fz.2 ≤ fz.1)
 | .row A n c t sz xs => w.ownsRow base t sz (.slice A n c) n xs
 | .ob b o => base ≤ b ∧ w.heap[b]? = some o
structure Hp (w0 : World) (H : List HE) (w : World) : Prop where
 below : Below w0.heap.size w0 w
 own : ∀ x ∈ H, x.holds w0.heap.size w
 nd : (H.filterMap HE.id).Nodup
section
variable {w0 w w' : World} {H : List HE}
theorem Hp.start (w : World) : Hp w [] w := ⟨Below.refl _ _, fun _ h => (nomatch h), List.nodup_nil⟩
theorem Hp.size (h : Hp w0 H w) : w0.heap.size ≤ w.heap.size := h.below.size
theorem dO {base : Nat} {x : HE} (h : x.holds base w) {b : Nat} (hb : x.id = some b) : base ≤ b ∧ b < w.heap.size := by
 cases x with
 | blk b' t cs fz =>
  obtain rfl : b' = b := by simpa [HE.id] using hb
  refine ⟨h.1, ?_⟩
  rcases Vv b' w.heap.size with hlt | hge
  ·exact hlt
  ·have := h.2.1; rw [XL hge] at this; cases this
 | row A n c t sz xs =>
  cases A with
  | none => simp [HE.id] at hb
  | some a => exact World.ownsRow.lt h b (by simpa [HE.id, Value.ownBlock] using hb)
 | ob b' o =>
  obtain rfl : b' = b := by simpa [HE.id] using hb
  refine ⟨h.1, ?_⟩
  rcases Vv b' w.heap.size with hlt | hge
  ·exact hlt
  ·have := h.2; rw [XL hge] at this; cases this
theorem oC {base : Nat} {x : HE} (h : x.holds base w) (hk : ∀ b, x.id = some b → w'.heap[b]? = w.heap[b]?) : x.holds base w' := by
 cases x with
 | blk b t cs fz => exact ⟨h.1, (hk b rfl).trans h.2.1, h.2.2⟩
 | row A n c t sz xs =>
  obtain ⟨h1, h2⟩ := h;refine ⟨h1, ?_⟩
  rcases h2 with h2 | ⟨g, cap, cur, hv, hg, hh, r⟩
  ·exact .inl h2
  ·have hA : A = some ⟨g, 0, none⟩ := by injection hv
   subst hA;exact .inr ⟨g, cap, cur, hv, hg, (hk g rfl).trans hh, r⟩
 | ob b o => exact ⟨h.1, (hk b rfl).trans h.2⟩
theorem Hp.ext (h : Hp w0 H w) (hb : Below w.heap.size w w') : Hp w0 H w' :=
 ⟨h.below.trans (hb.mono h.size), fun x hx => oC (h.own x hx) fun _ hi => hb.block _ (dO (h.own x hx) hi).2, h.nd⟩
theorem Hp.sub (h : Hp w0 H w) {H' : List HE} (hs : H'.Sublist H) : Hp w0 H' w := ⟨h.below, fun x hx => h.own x (hs.subset hx), h.nd.sublist (hs.filterMap _)⟩
theorem Hp.at_ (h : Hp w0 H w) {i : Nat} {x : HE} (hi : H[i]? = some x) : x.holds w0.heap.size w := h.own x (UJ hi)
theorem Hp.aV (h : Hp w0 H w) (hb : Below w.heap.size w w') {x : HE} (hx : x.holds w.heap.size w') : Hp w0 (x :: H) w' := by
 have h' := h.ext hb;refine ⟨h'.below, ?_, ?_⟩
 ·intro y hy
  rcases UZ.1 hy with rfl | hy
  ·cases y with
   | blk b t cs fz => exact ⟨U1 h.size hx.1, hx.2⟩
   | row A n c t sz xs =>
    obtain ⟨h1, h2⟩ := hx;exact ⟨h1, h2.imp id fun ⟨g, cap, cur, hv, hg, r⟩ => ⟨g, cap, cur, hv, U1 h.size hg, r⟩⟩
   | ob b o => exact ⟨U1 h.size hx.1, hx.2⟩
  ·exact h'.own y hy
 ·rw [Wm];split
  ·exact h'.nd
  ·rename_i b hb';refine WM.2 ⟨fun hm => ?_, h'.nd⟩;obtain ⟨y, hy, hyb⟩ := VF.1 hm;have h1 := (dO hx hb').1;have h2 := (dO (h.own y hy) hyb).2;omega
theorem Hp.LY (h : Hp w0 H w) {i : Nat} {x y : HE} (hi : H[i]? = some x) (hid : ∀ b, y.id = some b → x.id = some b ∨ w.heap.size ≤ b)
  (hb : Below w0.heap.size w0 w') (hk : ∀ b, b < w.heap.size → x.id ≠ some b → w'.heap[b]? = w.heap[b]?) (hy : y.holds w0.heap.size w') : Hp w0 (H.set i y) w' := by
 obtain ⟨hlt, hx⟩ := UW.1 hi;have hsplit : H = H.take i ++ x :: H.drop (i + 1) := by
  rw [← hx, ← V0 hlt, VA]
 have hset : H.set i y = H.take i ++ y :: H.drop (i + 1) := by rw [XT, UF hlt]
 have hnd := h.nd;rw [hsplit, W7] at hnd;have hother : ∀ z, z ∈ H.take i ∨ z ∈ H.drop (i + 1) → z ∈ H ∧ (∀ b, z.id = some b → x.id ≠ some b) := by
  intro z hz;refine ⟨hz.elim WX XR, fun b hzb hxb => ?_⟩;rw [Wm, hxb] at hnd;simp only [] at hnd;rw [XI] at hnd
  rcases hz with hz | hz
  ·exact hnd.2.2 b (VF.2 ⟨z, hz, hzb⟩) b (UR) rfl
  ·exact (WM.1 hnd.2.1).1 (VF.2 ⟨z, hz, hzb⟩)
 have hold : ∀ z, z ∈ H.take i ∨ z ∈ H.drop (i + 1) → z.holds w0.heap.size w' := fun z hz => by
  obtain ⟨hm, hne⟩ := hother z hz;exact oC (h.own z hm) fun b hzb => hk b (dO (h.own z hm) hzb).2 (hne b hzb)
 rw [hset];refine ⟨hb, ?_, ?_⟩
 ·intro z hz
  rcases Vk.1 hz with hz | hz
  ·exact hold z (.inl hz)
  ·rcases UZ.1 hz with rfl | hz
   ·exact hy
   ·exact hold z (.inr hz)
 ·rw [W7];have hsub : ((H.take i).filterMap HE.id ++ (H.drop (i + 1)).filterMap HE.id).Nodup := by
   refine hnd.sublist (List.Sublist.append (VX _) ?_);exact List.Sublist.filterMap _ (Vs _ _)
  rw [Wm];split
  ·exact hsub
  ·rename_i b hyb;have hfresh : ∀ z, z ∈ H.take i ∨ z ∈ H.drop (i + 1) → z.id ≠ some b := fun z hz hzb => by
    obtain ⟨hm, hne⟩ := hother z hz
    rcases hid b hyb with h1 | h1
    ·exact hne b hzb h1
    ·have := (dO (h.own z hm) hzb).2; omega
   rw [XI] at hsub ⊢;refine ⟨hsub.1, WM.2 ⟨fun hm => ?_, hsub.2.1⟩, fun u hu v hv => ?_⟩
   ·obtain ⟨z, hz, hzb⟩ := VF.1 hm;exact hfresh z (.inr hz) hzb
   ·rcases UZ.1 hv with rfl | hv
    ·rintro rfl;obtain ⟨z, hz, hzb⟩ := VF.1 hu;exact hfresh z (.inl hz) hzb
    ·exact hsub.2.2 u hu v hv
end
section
variable {w0 w w' : World} {H : List HE}
theorem Hp.Di (h : Hp w0 H w) {i b : Nat} {t : TypeId} {cs : List Value} {fz : Nat × Nat} (hi : H[i]? = some (.blk b t cs fz)) : Rd w ⟨b, 0, none⟩ cs := fun j u hu => by
 have h1 := (h.at_ hi).2.1;rw [fD, U5, cell_of_row w b j _ t fz h1];simpa using hu
theorem Hp.dN (h : Hp w0 H w) {i b o : Nat} {t : TypeId} {cs : List Value} {fz : Nat × Nat} {v : Value} (hi : H[i]? = some (.blk b t cs fz)) (hv : cs[o]? = some v) : w.cell? ⟨b, o, none⟩ = some v := by
 have := h.Di hi o v hv;rwa [fD, U5] at this
theorem Hp.cn (h : Hp w0 H w) {i b o n : Nat} {t : TypeId} {cs vs : List Value} {fz : Nat × Nat} (hi : H[i]? = some (.blk b t cs fz)) (hv : (cs.drop o).take n = vs) : Rd w ⟨b, o, none⟩ vs := by
 have := ((h.Di hi).drop o).take n;rwa [fD, U5, hv] at this
theorem lT {base : Nat} {t : TypeId} {A : Option Addr} {n c sz : Nat} {xs : List Value} (h : w.ownsRow base t sz (.slice A n c) n xs) : Sl w A n sz xs := by
 refine ⟨h.1, fun hn => ?_⟩;obtain ⟨g, cap, hv, _, hlt⟩ := h.form hn;have hA : A = some ⟨g, 0, none⟩ := by injection hv
 subst hA;exact ⟨_, rfl, h.cells (g := g) rfl⟩
theorem Hp.cN (h : Hp w0 H w) {i n c sz : Nat} {A : Option Addr} {t : TypeId} {xs : List Value} (hi : H[i]? = some (.row A n c t sz xs)) (hn : 0 < n) : ∃ g, A = some ⟨g, 0, none⟩ := by
 obtain ⟨g, cap, hv, _⟩ := World.ownsRow.form (h.at_ hi) hn;injection hv with hA
 exact ⟨g, hA⟩
theorem Hp.gg (h : Hp w0 H w) {i b n c sz o : Nat} {t : TypeId} {xs : List Value} {v : Value} (hi : H[i]? = some (.row (some ⟨b, 0, none⟩) n c t sz xs)) (hv : xs[o]? = some v) : w.cell? ⟨b, o, none⟩ = some v := by
 have := World.ownsRow.cells (h.at_ hi) (g := b) rfl o v hv;rwa [fD, U5] at this
theorem Hp.K3 (h : Hp w0 H w) {i n c sz : Nat} {A : Option Addr} {t : TypeId} {xs : List Value} (hi : H[i]? = some (.row A n c t sz xs)) : xs.length = n * sz := (h.at_ hi).1
theorem Hp.aA (h : Hp w0 H w) {i n c sz : Nat} {A : Option Addr} {t : TypeId} {xs : List Value} (hi : H[i]? = some (.row A n c t sz xs)) : Sl w A n sz xs := lT (h.at_ hi)
end
section
variable {P : Program} {ρ : Rf} {w : World} {d : Option Nat} {ty : TypeId} {pos : String} {af : Array Edge} {g : Option (Nat × Bool)}
theorem Da {t : TypeId} {x : Operand} {ad : Addr} {n by' : Nat} {zc vs : List Value} (ht : dr P t = some (n, true, by', zc)) (hx : ev ρ x = .pointer (some ad)) (hr : Rd w ad vs) (hl : vs.length = n) :
  (execOp (ev ρ) ⟨d, .load t x, ty, pos, af, g⟩).run P w = .ok (.value (.agg vs.toArray)) w := by
 subst hl;simp [execOp, hx, Instr.loadAt, Instr.sureAddr, loadVar, iS ht, e9 ht, run_loadCells_list (P := P) w ad vs hr]
theorem jN {t : TypeId} {x : Operand} {ad : Addr} {n by' : Nat} {zc : List Value} {v : Value} (ht : dr P t = some (n, false, by', zc)) (hx : ev ρ x = .pointer (some ad)) (hc : w.cell? ad = some v) :
  (execOp (ev ρ) ⟨d, .load t x, ty, pos, af, g⟩).run P w = .ok (.value v) w := by
 simp [execOp, hx, Instr.loadAt, Instr.sureAddr, loadVar, iS ht, run_load, hc]
theorem eN {t : TypeId} {ad : Addr} {n by' : Nat} {zc vs : List Value} (ht : dr P t = some (n, true, by', zc)) (hr : Rd w ad vs) (hl : vs.length = n) :
  (loadVar t ad).run P w = .ok (.agg vs.toArray) w := by
 subst hl;simp [loadVar, iS ht, e9 ht, run_loadCells_list (P := P) w ad vs hr]
def gK (P : Program) (s : TypeId) (i : Nat) : Option (Nat × TypeId) :=
 match P.underlying s with
 | some (.struct fs) => match fs[i]? with
  | some f => if P.cellsOf f.type = 0 then none else some (f.offset, f.type)
  | none => none
 | _ => none
theorem r6 {s : TypeId} {x : Operand} {f b o off : Nat} {ft : TypeId} (hf : gK P s f = some (off, ft)) (hx : ev ρ x = .pointer (some ⟨b, o, none⟩)) :
  (execOp (ev ρ) ⟨d, .fieldAddr s x f, ty, pos, af, g⟩).run P w = .ok (.value (.pointer (some ⟨b, o + off, none⟩))) w := by
 unfold gK at hf;split at hf
 ·rename_i fs hs;split at hf
  ·rename_i fd hfd;split at hf
   ·cases hf
   ·rename_i hc;simp only [Wv, Prod.mk.injEq] at hf;obtain ⟨rfl, rfl⟩ := hf;have hsz : ∃ i, P.info? fd.type = some i ∧ i.size ≠ 0 := by
     exact SA
    obtain ⟨i, hi, hi0⟩ := hsz;simp [execOp, hx, Instr.fieldAt, run_underlying hs, hfd, Instr.sureAddr, fieldPlace, sizeOf, typeInfo, hi, hi0, fD]
  ·cases hf
 ·cases hf
theorem qu {s : TypeId} {x : Operand} {f off : Nat} {ad : Addr} {ft : TypeId} (hf : gK P s f = some (off, ft)) (hx : ev ρ x = .pointer (some ad)) :
  (execOp (ev ρ) ⟨d, .fieldAddr s x f, ty, pos, af, g⟩).run P w = .ok (.value (.pointer (some (ad.add off)))) w := by
 unfold gK at hf;split at hf
 ·rename_i fs hs;split at hf
  ·rename_i fd hfd;split at hf
   ·cases hf
   ·rename_i hc;simp only [Wv, Prod.mk.injEq] at hf;obtain ⟨rfl, rfl⟩ := hf;have hsz : ∃ i, P.info? fd.type = some i ∧ i.size ≠ 0 := by
     exact SA
    obtain ⟨i, hi, hi0⟩ := hsz;simp [execOp, hx, Instr.fieldAt, run_underlying hs, hfd, Instr.sureAddr, fieldPlace, sizeOf, typeInfo, hi, hi0]
  ·cases hf
 ·cases hf
theorem Nd {s : TypeId} {x : Operand} {f off n by' : Nat} {ft : TypeId} {cs vs : Array Value} {zc : List Value} (hf : gK P s f = some (off, ft)) (ht : dr P ft = some (n, true, by', zc)) (hx : ev ρ x = .agg cs) (hv : cs.extract off (off + n) = vs) :
  (execOp (ev ρ) ⟨d, .field s x f, ty, pos, af, g⟩).run P w = .ok (.value (.agg vs)) w := by
 unfold gK at hf;split at hf
 ·rename_i fs hs;split at hf
  ·rename_i fd hfd;split at hf
   ·cases hf
   ·simp only [Wv, Prod.mk.injEq] at hf;obtain ⟨rfl, rfl⟩ := hf;simp [execOp, hx, Instr.field, run_underlying hs, hfd, asAgg, part, iS ht, e9 ht, hv]
  ·cases hf
 ·cases hf
end
section
variable {ro : Mode}
def cm (cs : List Value) (o : Nat) (vs : List Value) : List Value := cs.take o ++ vs ++ cs.drop (o + vs.length)
theorem fI {cs vs : List Value} {o : Nat} (h : o + vs.length ≤ cs.length) : (cm cs o vs).length = cs.length := by
 simp only [cm, UM, U6, VY]; omega
theorem u9 (cs : List Value) (o : Nat) : cm cs o [] = cs := by simp [cm]
theorem rP {cs vs : List Value} {o : Nat} {v : Value} (h : o + (v :: vs).length ≤ cs.length) : cm cs o (v :: vs) = cm (cs.set o v) (o + 1) vs := by
 simp only [U7] at h;have h0 : cs.set o v = cs.take o ++ v :: cs.drop (o + 1) := by rw [XT, UF Uz]
 have h2 : (cs.take o).length = o := by simp; omega
 have h1 : (cs.set o v).take (o + 1) = cs.take o ++ [v] := by
  rw [h0, List.take_append, h2, UQ Uz];simp
 have h3 : (cs.set o v).drop (o + 1 + vs.length) = cs.drop (o + 1 + vs.length) := List.drop_set_of_lt Uz;unfold cm;rw [h1, h3];simp [Xi, Wx 1]
theorem vL {a b c : World} {r : Option Nat} (h : a.grownBy b r) (k : b.grownBy c r) : a.grownBy c r :=
 ⟨k.os.trans h.os, k.tape.trans h.tape, k.output.trans h.output, U1 h.size k.size, fun i hi hne => (k.block i (VN hi h.size) hne).trans (h.block i hi hne)⟩
theorem AP (w : World) (b o : Nat) (v : Value) : w.grownBy (w.setCell ⟨b, o, none⟩ v) (some b) :=
 ⟨rfl, rfl, rfl, by simp [World.setCell], fun k _ hne => Below.heap_setCell w _ v k (fun e => hne (by rw [e]))⟩
section
variable {P : Program}
theorem gM {b : Nat} {t : TypeId} {fz : Nat × Nat} (o : Nat) : ∀ (vs : List Value) (i : Nat) (cs : List Value) (w : World), w.heap[b]? = some (.cells cs.toArray t fz) → (cs.length ≤ fz.1 ∨ fz.2 ≤ fz.1) →
  o + i + vs.length ≤ cs.length → (∀ v ∈ vs, v.oneCell' = true) →
  ∃ w', (storeCells ⟨b, o, none⟩ vs i).run P w = .ok () w' ∧ w'.heap[b]? = some (.cells (cm cs (o + i) vs).toArray t fz) ∧ w.grownBy w' (some b) ∧ w'.heap.size = w.heap.size
 | [], i, cs, w, hw, _, _, _ => ⟨w, by simp [storeCells], by rw [u9]; exact hw, World.grownBy.refl _ _, rfl⟩
 | v :: vs, i, cs, w, hw, hf, hl, h1 => by
  simp only [U7] at hl;have hoi : o + i < cs.length := Uz;have hc : w.cell? ⟨b, o + i, none⟩ = some cs[o + i] := by
   rw [cell_of_row w b (o + i) _ t fz hw];simp [VZ hoi]
  have hfr : w.frozen? ⟨b, o + i, none⟩ = false := by
   simp only [World.frozen?, hw]
   rcases hf with hf | hf <;> simp <;> omega
  have hw2 : (w.setCell ⟨b, o + i, none⟩ v).heap[b]? = some (.cells (cs.set (o + i) v).toArray t fz) := by
   simp [World.setCell, Array.getElem?_modify, hw]
  obtain ⟨w', hr, hb', hg, hs⟩ := gM (b := b) (t := t) (fz := fz) o vs (i + 1) (cs.set (o + i) v) _ hw2 (by simpa using hf) (by simp; omega) (fun u hu => h1 u (UT _ hu));refine ⟨w', ?_, ?_, vL (AP w b (o + i) v) hg, hs.trans (by simp [World.setCell])⟩
  ·simp only [storeCells, Sem.run_bind, fD, run_store P w ⟨b, o + i, none⟩ v .plain (h1 v (UR)), hc, hfr];simpa using hr
  ·rw [rP (by simp; omega)];exact hb'
end
def ky (pl : Nat → Option (Nat × Nat)) : List Value → List (Nat × Value) → Option (List Value)
 | cs, [] => some cs
 | cs, (i, v) :: r =>
  match pl i with
  | none => none
  | some (off, size) => if v.cells.toList.length ≠ size ∨ cs.length < off + v.cells.toList.length then none else ky pl (cm cs off v.cells.toList) r
theorem pj : ∀ (vs : List Value) (k o : Nat) (cs : List Value), o + k + vs.length ≤ cs.length →
  (vs.zipIdx k).foldl (fun (cs : Array Value) (x : Value × Nat) => cs.setIfInBounds (o + x.2) x.1) cs.toArray = (cm cs (o + k) vs).toArray
 | [], k, o, cs, _ => by simp [u9]
 | v :: vs, k, o, cs, h => by
  rw [List.zipIdx_cons, X4];simp only [List.setIfInBounds_toArray];rw [pj vs (k + 1) o (cs.set (o + k) v) (by simp at h ⊢; omega), rP (by simp at h ⊢; omega)]
  rfl
theorem xU {pl : Nat → Option (Nat × Nat)} : ∀ (ps : List (Nat × Value)) (zs cs : List Value), ky pl zs ps = some cs → Instr.fill pl zs.toArray ps = some cs.toArray
 | [], zs, cs, h => by simp only [ky, Wv] at h; subst h; rfl
 | (i, v) :: r, zs, cs, h => by
  unfold ky at h;unfold Instr.fill;split at h
  ·cases h
  ·rename_i off size hpl;split at h
   ·cases h
   ·rename_i hc;simp only [ne_eq, not_or, Decidable.not_not, Nat.not_lt] at hc;simp only [hpl];have h1 : ¬ ((v.cells.size ≠ size || decide (off + v.cells.size > zs.toArray.size)) = true) := by
     have e : v.cells.size = v.cells.toList.length := by simp
     simp only [e, hc.1, Xm, W6, U2, ne_eq, not_true, decide_false, XP, false_or];omega
    rw [UE h1];have h2 : v.cells.zipIdx.foldl (fun (cs : Array Value) (x : Value × Nat) => cs.setIfInBounds (off + x.2) x.1) zs.toArray = (cm zs off v.cells.toList).toArray := by
     have := pj v.cells.toList 0 off zs Uz;rw [We] at this;rw [← this, ← Array.foldl_toList, Array.toList_zipIdx]
    exact (VJ (fun x => Instr.fill pl x r) h2).trans (xU r _ cs h)
def fM : Nat → List Value → List Value
 | 0, _ => []
 | n + 1, zc => zc ++ fM n zc
theorem mW (n : Nat) (zc : List Value) : (fM n zc).length = n * zc.length := by
 induction n with
 | zero => simp [fM]
 | succ n ih => simp [fM, ih, WJ, Wx]
theorem xB : ∀ (n : Nat) (zc : List Value) (i : Nat), i < n * zc.length → (fM n zc)[i]? = zc[i % zc.length]?
 | 0, zc, i, h => by simp at h
 | n + 1, zc, i, h => by
  unfold fM
  rcases Vv i zc.length with hi | hi
  ·rw [WV hi, Vh hi]
  ·rw [VW hi, xB n zc (i - zc.length) (by rw [WJ] at h; omega)];congr 1;rw [Nat.mod_eq_sub_mod hi]
theorem ur (n : Nat) (zc : List Value) : (Array.range (n * zc.length)).map (fun i => zc.toArray[i % zc.length]!) = (fM n zc).toArray := by
 apply Array.ext_getElem?;intro i
 rcases Vv i (n * zc.length) with h | h
 ·have hpos : 0 < zc.length := by
   rcases WG zc.length with h0 | h0
   ·rw [h0] at h; omega
   ·exact h0
  have hm : i % zc.length < zc.length := Va _ hpos;simp [h, xB n zc i h, VZ hm]
 ·have h2 : (fM n zc).length ≤ i := by rw [mW]; exact h
  simp [h2, h]
def xn (ρ : Rf) : List (Nat × Operand) → List (Nat × Value)
 | [] => []
 | (i, x) :: l => (i, ev ρ x) :: xn ρ l
theorem D9 {ρ : Rf} (parts : Array (Nat × Operand)) {ps : List (Nat × Value)} (h : xn ρ parts.toList = ps) : (parts.map fun (i, x) => (i, ev ρ x)) = ps.toArray := by
 have h1 : ∀ l : List (Nat × Operand), l.map (fun (i, x) => (i, ev ρ x)) = xn ρ l := by
  intro l
  induction l with
  | nil => rfl
  | cons a l ih => simp only [U9, ih]; rfl
 subst h;rw [← h1];apply Xj;simp
section
variable {P : Program} {N : Nat} {ops : Array Oper} {Q : Kq} {ρ : Rf} {w w0 : World} {rest : List Oper} {H : List HE} {d : Nat} {ty : TypeId} {pos : String} {af : Array Edge}
theorem vu {w' : World} {r : Option Nat} (h : Below w0.heap.size w0 w) (hg : w.grownBy w' r) (hr : ∀ k, r = some k → w0.heap.size ≤ k) : Below w0.heap.size w0 w' := h.grown hg h.size hr
theorem Hp.grown {w' : World} {x y : HE} {i : Nat} (h : Hp w0 H w) (hi : H[i]? = some x) (hg : w.grownBy w' x.id) (hid : y.id = x.id ∨ y.id = none ∨ y.id = some w.heap.size) (hy : y.holds w0.heap.size w') : Hp w0 (H.set i y) w' := by
 refine h.LY hi (fun b hb => ?_) (vu h.below hg fun k hk => (dO (h.at_ hi) hk).1) (fun b hlt hne => hg.block b hlt (fun e => hne e.symm)) hy
 rcases hid with e | e | e
 ·exact .inl (by rw [← e]; exact hb)
 ·rw [e] at hb; cases hb
 ·rw [e] at hb;injection hb with hb
  exact .inr Uz
theorem Hp.cY (h : Hp w0 H w) (t : TypeId) (sz : Nat) : Hp w0 (.row none 0 0 t sz [] :: H) w :=
 ⟨h.below, fun x hx => by
  rcases UZ.1 hx with rfl | hx
  ·exact World.ownsRow_nil _ _ _ _
  ·exact h.own x hx, by show (List.filterMap HE.id H).Nodup; exact h.nd⟩
theorem Hp.Es (h : Hp w0 H w) (t : TypeId) (cs : List Value) : Hp w0 (.blk w.heap.size t cs (0, 0) :: H) (w.alloc (.cells cs.toArray t)) :=
 h.aV ((Below.refl _ _).alloc (UH _) _) ⟨UH _, heap_alloc_new w _, .inr (UH _)⟩
theorem Hp.EV (h : Hp w0 H w) (t : TypeId) (sz n : Nat) (cs : List Value) (hl : cs.length = n * sz) (hn : n ≤ maxLen) : Hp w0 (.row (some ⟨w.heap.size, 0, none⟩) n n t sz cs :: H) (w.alloc (.cells cs.toArray t)) :=
 h.aV ((Below.refl _ _).alloc (UH _) _) ⟨hl, .inr ⟨w.heap.size, n, cs.toArray, rfl, UH _, heap_alloc_new w _, UH _, hn, by simpa using hl, by simp only [UQ (show cs.length ≤ n * sz by omega)]⟩⟩
theorem Pd (hh : Hp w0 H w) {t : TypeId} {x : Operand} {cs : List Value} {v : Value} (hx : ev ρ x = v) (hc : v.cells = cs.toArray) (hN : d < N)
  (k : ∀ b w', Hp w0 (.blk b t cs (0, 0) :: H) w' → WL ro P N ops Q rest (cI ρ d (.pointer (some ⟨b, 0, none⟩))) w') : WL ro P N ops Q (⟨some d, .box t x, ty, pos, af, none⟩ :: rest) ρ w :=
 aQ rfl rfl hN (w' := w.alloc (.cells cs.toArray t)) (v := .pointer (some ⟨w.heap.size, 0, none⟩)) (by simp [execOp, hx, Instr.box, newVar, newRow, hc]) (k _ _ (hh.Es t cs))
theorem Ja (hh : Hp w0 H w) {t : TypeId} {n by' : Nat} {ag : Bool} {zc : List Value} (ht : dr P t = some (n, ag, by', zc)) (hN : d < N)
  (k : ∀ b w', Hp w0 (.blk b t zc (0, 0) :: H) w' → WL ro P N ops Q rest (cI ρ d (.pointer (some ⟨b, 0, none⟩))) w') : WL ro P N ops Q (⟨some d, .alloc t, ty, pos, af, none⟩ :: rest) ρ w := by
 obtain ⟨z, hz, hzc⟩ := dF (w := w) ht;exact aQ rfl rfl hN (w' := w.alloc (.cells zc.toArray t)) (v := .pointer (some ⟨w.heap.size, 0, none⟩)) (by simp [execOp, Instr.alloc, newVar, newRow, hz, hzc]) (k _ _ (hh.Es t zc))
theorem vp (hh : Hp w0 H w) {t t' : TypeId} {x y : Operand} {i b o n by' : Nat} {ag : Bool} {zc cs vs : List Value} {fz : Nat × Nat} {v : Value} (hx : ev ρ x = .pointer (some ⟨b, o, none⟩)) (hi : H[i]? = some (.blk b t' cs fz))
  (hy : ev ρ y = v) (hc : v.cells = vs.toArray) (ht : dr P t = some (n, ag, by', zc)) (hl : vs.length = n) (ho : o + n ≤ cs.length) (h1 : (vs.all Value.oneCell') = true)
  (k : ∀ w', Hp w0 (H.set i (.blk b t' (cm cs o vs) fz)) w' → WL ro P N ops Q rest ρ w') : WL ro P N ops Q (⟨none, .store t x y, ty, pos, af, none⟩ :: rest) ρ w := by
 have hb := hh.at_ hi;obtain ⟨w', hr, hb', hg, hs⟩ := gM (P := P) (b := b) (t := t') (fz := fz) o vs 0 cs w hb.2.1 hb.2.2 Uz (by simpa using h1);refine Fk rfl rfl (w' := w') ?_ (k w' (hh.grown hi hg (.inl rfl) ⟨hb.1, by simpa using hb', by rw [fI Uz]; exact hb.2.2⟩));simp [execOp, hx, hy, Instr.storeAt, Instr.sureAddr, storeVar, e9 ht, hl, hc, hr]
theorem bQ (hh : Hp w0 H w) {t t' : TypeId} {x y : Operand} {i b o n m c sz by' : Nat} {ag : Bool} {zc xs vs : List Value} {v : Value} (hx : ev ρ x = .pointer (some ⟨b, o, none⟩)) (hi : H[i]? = some (.row (some ⟨b, 0, none⟩) m c t' sz xs))
  (hy : ev ρ y = v) (hc : v.cells = vs.toArray) (ht : dr P t = some (n, ag, by', zc)) (hl : vs.length = n) (ho : o + n ≤ xs.length) (h1 : (vs.all Value.oneCell') = true)
  (k : ∀ w', Hp w0 (H.set i (.row (some ⟨b, 0, none⟩) m c t' sz (cm xs o vs))) w' → WL ro P N ops Q rest ρ w') : WL ro P N ops Q (⟨none, .store t x y, ty, pos, af, none⟩ :: rest) ρ w := by
 have hrow := hh.at_ hi;obtain ⟨hlen, h2⟩ := hrow
 rcases h2 with ⟨h2, _⟩ | ⟨g, cap, cur, hv, hg, hheap, hmc, hcm, hcur, htake⟩
 ·injection h2 with h2; cases h2
 ·injection hv with hA hn hcap
  injection hA with hA
  injection hA with hA
  subst hA; subst hcap;have hcl : cur.size = cur.toList.length := by simp
  have hle : m * sz ≤ c * sz := VG _ hmc;obtain ⟨w', hr, hb', hgr, hs⟩ := gM (P := P) (b := b) (t := t') (fz := (0, 0)) o vs 0 cur.toList w (by simpa using hheap) (.inr (UH _)) (by rw [← hcl]; omega) (by simpa using h1);refine Fk rfl rfl (w' := w') ?_ (k w' (hh.grown hi hgr (.inl rfl) ⟨by rw [fI Uz]; exact hlen, .inr ⟨b, c, (cm cur.toList o vs).toArray, rfl, hg, by simpa using hb', hmc, hcm, ?_, ?_⟩⟩))
  ·simp [execOp, hx, hy, Instr.storeAt, Instr.sureAddr, storeVar, e9 ht, hl, hc, hr]
  ·simp only [Xm];rw [fI (by rw [← hcl]; omega), ← hcl, hcur]
  ·exact Rc
theorem cR (hh : Hp w0 H w) {t e : TypeId} {len sz by' : Nat} {ag : Bool} {parts : Array (Nat × Operand)} {ps : List (Nat × Value)} {zc cs : List Value} (ht : P.underlying t = some (.slice e)) (hte : dr P e = some (sz, ag, by', zc))
  (hp : xn ρ parts.toList = ps) (hzl : zc.length = sz) (hf : ky (fun i => some (i * sz, sz)) (fM len zc) ps = some cs) (h0 : ¬ len * sz = 0) (hle : len ≤ 1000) (hsl : len * sz ≤ 16777216) (hl : cs.length = len * sz) (hN : d < N)
  (k : ∀ b w', Hp w0 (.row (some ⟨b, 0, none⟩) len len e sz cs :: H) w' → WL ro P N ops Q rest (cI ρ d (.slice (some ⟨b, 0, none⟩) len len)) w') : WL ro P N ops Q (⟨some d, .buildSlice t len parts, ty, pos, af, none⟩ :: rest) ρ w := by
 obtain ⟨z, hz, hzc⟩ := dF (w := w) hte;refine aQ rfl rfl hN (w' := w.alloc (.cells cs.toArray e)) (v := .slice (some ⟨w.heap.size, 0, none⟩) len len) ?_ (k _ _ (hh.EV e sz len cs hl (by unfold maxLen; omega)));exact Ql
def qh (P : Program) (t : TypeId) : Option (List (Nat × Nat)) :=
 match P.underlying t with
 | some (.struct fs) => fs.toList.mapM fun f => (P.info? f.type).map fun i => (f.offset, i.size)
 | _ => none
theorem tE {P : Program} {w : World} : ∀ (l : List Field) (pl : List (Nat × Nat)), (l.mapM fun f => (P.info? f.type).map fun i => (f.offset, i.size)) = some pl →
  (l.mapM (m := Sem) fun f => do pure (f.offset, ← sizeOf f.type)).run P w = .ok pl w
 | [], pl, h => by
  simp at h; subst h; simp
 | f :: l, pl, h => by
  rw [List.mapM_cons] at h
  cases hi : P.info? f.type with
  | none => simp [hi] at h
  | some i =>
   cases hr : l.mapM (fun f => (P.info? f.type).map fun i => (f.offset, i.size)) with
   | none => simp [hr] at h
   | some pl' =>
    simp [hi, hr] at h;have ih := tE (w := w) l pl' hr;have hs : (sizeOf f.type).run P w = .ok i.size w := by simp [sizeOf, typeInfo, hi]
    rw [List.mapM_cons, Sem.run_bind, Sem.run_bind, hs, Result.andThen_ok, Sem.run_pure, Result.andThen_ok, Sem.run_bind, ih, Result.andThen_ok, Sem.run_pure, h]
theorem sT {dd : Option Nat} {g : Option (Nat × Bool)} {t : TypeId} {n by' : Nat} {parts : Array (Nat × Operand)} {ps : List (Nat × Value)} {zc cs : List Value} {pl : List (Nat × Nat)} (hte : dr P t = some (n, true, by', zc))
  (hpl : qh P t = some pl)
  (hp : xn ρ parts.toList = ps) (hf : ky (pl[·]?) zc ps = some cs) :
  (execOp (ev ρ) ⟨dd, .build t parts, ty, pos, af, g⟩).run P w = .ok (.value (.agg cs.toArray)) w := by
 obtain ⟨z, hz, hzc⟩ := dF (w := w) hte;unfold qh at hpl;split at hpl
 ·rename_i fs hfs;have h1 := tE (w := w) _ _ hpl;have h2 : (fs.mapM (m := Sem) fun f => do pure (f.offset, ← sizeOf f.type)).run P w = .ok pl.toArray w := by
   have e : fs = fs.toList.toArray := by simp
   rw [e, List.mapM_toArray, Sem.run_map, h1]
   rfl
  have hf' := xU _ _ _ hf;have hpp : (fun (x : Nat) => pl.toArray[x]?) = fun x => pl[x]? := by funext x; simp
  have hp' := D9 parts hp;simp only [execOp, hp', Instr.build, Sem.run_bind, hz, Result.andThen_ok, run_underlying hfs, h2, hzc, hpp, hf', Sem.run_pure]
 ·cases hpl
end
end
section
variable {ro : Mode}
theorem iI (A : Option Addr) (n c : Nat) : (Value.slice A n c).ownBlock = A.map (·.block) := by cases A <;> rfl
theorem uO (n : Nat) (z : Value) : fM n [z] = List.replicate n z := by
 induction n with
 | zero => rfl
 | succ n ih => simp [fM, ih, WS]
theorem fC {w : World} {ad : Addr} {xs : List Value} {m : Int} {k : Nat} {v : Value} (h : Rd w ad xs) (hx : xs[k]? = some v) (hm : m = (k : Int)) : w.cell? (ad.add (m.toNat * 1)) = some v := by
 subst hm;simpa using h k v hx
def jQ (l : List UInt8) : List Value := l.map fun c => .int .u8 c.toNat
theorem jg (l : List UInt8) : (jQ l).length = l.length := by simp [jQ]
section
variable {P : Program} {w : World}
theorem qe (base : Nat) (t ty e : TypeId) (i : TypeInfo) (ht : P.underlying t = some (.slice e)) (hi : P.info? e = some i)
  (v : Value) (n : Nat) (xs : List Value) (sz : Nat) (hown : w.ownsRow base e sz v n xs) (c : Nat) : (Builtin.append_ #[t, t] ty #[v, .slice none 0 c]).run P w = .ok v w := by
 rcases hown.2 with ⟨rfl, rfl⟩ | ⟨g, cap, cur, rfl, _, _, hnc, _⟩
 ·simp [Builtin.append_, run_underlying ht, sizeOf, typeInfo, hi, Builtin.lenOf, Builtin.firstCells]
 ·simp [Builtin.append_, run_underlying ht, sizeOf, typeInfo, hi, Builtin.lenOf, Builtin.firstCells, hnc, storeCells]
theorem vI (base : Nat) (t ty e : TypeId) (sz by' : Nat) (ag : Bool) (zc : List Value) (ht : P.underlying t = some (.slice e)) (hte : dr P e = some (sz, ag, by', zc)) (hzl : zc.length = sz) (hsz : 0 < sz)
  (A : Option Addr) (n c : Nat) (xs : List Value) (hown : w.ownsRow base e sz (.slice A n c) n xs) (B : Option Addr) (m c' : Nat) (news : List Value) (hsl : Sl w B m sz news) (h1 : ∀ u ∈ news, u.oneCell' = true)
  (h63 : n + m ≤ maxLen) (hbytes : (n + m) * by' ≤ 140737488355328) (hbase : base ≤ w.heap.size) :
  ∃ A' c2 w', (Builtin.append_ #[t, t] ty #[.slice A n c, .slice B m c']).run P w = .ok (.slice A' (n + m) c2) w' ∧ w'.ownsRow base e sz (.slice A' (n + m) c2) (n + m) (xs ++ news) ∧
   w.grownBy w' (A.map (·.block)) ∧ (A'.map (·.block) = A.map (·.block) ∨ A'.map (·.block) = none ∨ A'.map (·.block) = some w.heap.size) := by
 obtain ⟨i, z, d, hi, hd, hz, hs, hby, hzc, _⟩ := eG hte;have hzs : z.cells.size = sz := by rw [hzc]; simpa using hzl
 have fin : ∀ (ad : Addr), B = some ad → Rd w ad news → ∃ A' c2 w', (Builtin.append_ #[t, t] ty #[.slice A n c, .slice B m c']).run P w = .ok (.slice A' (n + m) c2) w' ∧ w'.ownsRow base e sz (.slice A' (n + m) c2) (n + m) (xs ++ news) ∧
   w.grownBy w' (A.map (·.block)) ∧ (A'.map (·.block) = A.map (·.block) ∨ A'.map (·.block) = none ∨ A'.map (·.block) = some w.heap.size) := by
  rintro ad rfl hr;obtain ⟨v', w', hrun, h2, h3, _, h5⟩ := run_append_own_at (P := P) w base t ty e i z sz by' ht hi hz hs hby hzs hsz (.slice A n c) n xs hown ad m c' news hsl.1 hr h1 h63 hbytes hbase;rw [iI] at h3
  rcases h2.2 with ⟨hv, h0⟩ | ⟨g, cap, cur, hv, r⟩
  ·subst hv;refine ⟨none, 0, w', by rw [hrun, h0], by rw [h0]; exact h0 ▸ h2, h3, .inr (.inl rfl)⟩
  ·subst hv;refine ⟨_, _, w', hrun, h2, h3, ?_⟩
   rcases h5 with h5 | h5
   ·exact .inl (by rw [← iI _ (n + m) cap, h5, iI])
   ·exact .inr (.inr (by rw [← iI _ (n + m) cap, h5]))
 rcases WG m with h0 | h0
 ·subst h0;have hnews : news = [] := Wk (by simpa using hsl.1);subst hnews
  cases B with
  | none => exact ⟨A, c, w, qe base t ty e i ht hi _ n xs sz hown c', by simpa using hown, World.grownBy.refl _ _, .inl rfl⟩
  | some ad => exact fin ad rfl (fun j u hu => by simp at hu)
 ·obtain ⟨ad, hB, hr⟩ := hsl.2 h0;exact fin ad hB hr
theorem vF {A : Option Addr} {n c : Nat} {l : List UInt8} (h : Sl w A n 1 (jQ l)) : (Conv.bytesToString (.slice A n c)).run P w = .ok (.string ⟨l.toArray⟩) w := by
 have hn : l.length = n := by have := h.1; rw [jg] at this; omega
 cases A with
 | none =>
  have h0 : n = 0 := by
   rcases WG n with h0 | h0
   ·exact h0
   ·obtain ⟨ad, h1, _⟩ := h.2 h0; cases h1
  have : l = [] := Wk Uz;subst this;simp [Conv.bytesToString, ByteArray.empty, ByteArray.emptyWithCapacity]
  rfl
 | some a =>
  have hr : Rd w a (jQ l) := by
   rcases WG n with h0 | h0
   ·have : l = [] := Wk Uz;subst this;intro j u hu; simp [jQ] at hu
   ·obtain ⟨ad, h1, h2⟩ := h.2 h0;injection h1 with h1; subst h1; exact h2
  have e1 : jQ l = (l.map fun c : UInt8 => (c.toNat : Int)).map (Value.int .u8) := by simp [jQ]
  have hld := run_loadCells_list (P := P) w a (jQ l) hr;rw [jg, hn, e1] at hld;rw [run_bytesToString w a n c _ hld];congr 2;have : ∀ (l : List UInt8) (s : ByteArray), (l.map fun c : UInt8 => (c.toNat : Int)).foldl (fun r n => r.push (UInt8.ofNat n.toNat)) s = ⟨s.data ++ l.toArray⟩ := by
   intro l
   induction l with
   | nil => intro s; simp
   | cons c l ih =>
    intro s;simp only [U9, X4];rw [ih];have : (s.push (UInt8.ofNat ((c.toNat : Int)).toNat)).data = s.data.push c := by simp [ByteArray.push]
    rw [this];congr 1;apply Xj;simp
  rw [this];congr 1;apply Xj;simp [ByteArray.empty, ByteArray.emptyWithCapacity]
  rfl
end
section
variable {P : Program} {N : Nat} {ops : Array Oper} {Q : Kq} {ρ : Rf} {w w0 : World} {rest : List Oper} {H : List HE} {d : Nat} {ty : TypeId} {pos : String} {af : Array Edge}
theorem cH (hh : Hp w0 H w) {t e : TypeId} {s x : Operand} {i n c m c' sz by' : Nat} {ag : Bool} {A B : Option Addr} {zc xs news : List Value} (hi : H[i]? = some (.row A n c e sz xs)) (hs : ev ρ s = .slice A n c) (hx : ev ρ x = .slice B m c')
  (hsl : Sl w B m sz news) (ht : P.underlying t = some (.slice e)) (hte : dr P e = some (sz, ag, by', zc)) (hzl : zc.length = sz) (hsz : 0 < sz) (h1 : (news.all Value.oneCell') = true)
  (h63 : n + m ≤ 9223372036854775807) (hbytes : (n + m) * by' ≤ 140737488355328) (hN : d < N)
  (k : ∀ A' c2 w', Hp w0 (H.set i (.row A' (n + m) c2 e sz (xs ++ news))) w' → WL ro P N ops Q rest (cI ρ d (.slice A' (n + m) c2)) w') :
  WL ro P N ops Q (⟨some d, .call ⟨.builtin .append, #[s, x], #[t, t]⟩, ty, pos, af, none⟩ :: rest) ρ w := by
 obtain ⟨A', c2, w', hr, hown, hg, hid⟩ := vI (P := P) w0.heap.size t ty e sz by' ag zc ht hte hzl hsz A n c xs (hh.at_ hi) B m c' news hsl (by simpa using h1) (by unfold maxLen; omega) hbytes hh.size;refine aQ rfl rfl hN (w' := w') (v := .slice A' (n + m) c2) ?_ (k A' c2 w' (hh.grown hi hg hid hown));simp only [execOp, resolve, invoke, builtin, Sem.run_bind, Sem.run_pure, Result.andThen_ok, List.map_toArray, U9, VD, hs, hx, hr]
theorem gu (hh : Hp w0 H w) {t e : TypeId} {l cp : Operand} {kl kc : IntKind} {L C : Int} {n sz by' : Nat} {ag : Bool} {zc : List Value} (hl : ev ρ l = .int kl L) (hc : ev ρ cp = .int kc C) (hL : L = (n : Int)) (hC : C = (n : Int))
  (ht : P.underlying t = some (.slice e)) (hte : dr P e = some (sz, ag, by', zc)) (hzl : zc.length = sz) (hb : by' * n ≤ 281474976710656) (h63 : n ≤ 9223372036854775807) (hN : d < N)
  (k : ∀ b w', Hp w0 (.row (some ⟨b, 0, none⟩) n n e sz (fM n zc) :: H) w' → WL ro P N ops Q rest (cI ρ d (.slice (some ⟨b, 0, none⟩) n n)) w') :
  WL ro P N ops Q (⟨some d, .makeSlice t l cp, ty, pos, af, none⟩ :: rest) ρ w := by
 obtain ⟨i, z, dd, hi, hd, hz, hs, hby, hzc, _⟩ := eG hte;subst hL; subst hC;obtain ⟨w', hr, hown, hg⟩ := run_make_full (P := P) w w.heap.size t e i z sz ht hi hz hs kl kc n (by rw [hby]; exact hb) (by unfold maxLen; omega) (UH _);have hzz : (madeCells z.cells (n * sz)).toList = fM n zc := by
  exact QA
 rw [hzz] at hown;refine aQ rfl rfl hN (w' := w') (v := .slice (some ⟨w.heap.size, 0, none⟩) n n) ?_ (k _ w' (hh.aV ⟨hg.os, hg.tape, hg.output, hg.size, fun j hj => hg.block j hj (by simp)⟩ hown));simp [execOp, hl, hc, hr]
theorem ki (hh : Hp w0 H w) {t e : TypeId} {sz by' : Nat} {ag : Bool} {zc : List Value} (ht : P.underlying t = some (.slice e)) (hte : dr P e = some (sz, ag, by', zc)) (hN : d < N)
  (k : ∀ b w', Hp w0 (.row (some ⟨b, 0, none⟩) 0 0 e sz [] :: H) w' → WL ro P N ops Q rest (cI ρ d (.slice (some ⟨b, 0, none⟩) 0 0)) w') : WL ro P N ops Q (⟨some d, .buildSlice t 0 #[], ty, pos, af, none⟩ :: rest) ρ w := by
 refine aQ rfl rfl hN (w' := w.alloc (.cells #[] e)) (v := .slice (some ⟨w.heap.size, 0, none⟩) 0 0) ?_ (k _ _ (hh.EV e sz 0 [] (by simp) (by unfold maxLen; omega)));have e0 : Array.range 0 = #[] := rfl;simp [execOp, Instr.buildSlice, run_underlying ht, e9 hte, Instr.fill, newRow, e0]
theorem jw {dd : Option Nat} {g : Option (Nat × Bool)} {s t e : TypeId} {x : Operand} {A : Option Addr} {n c : Nat} {l : List UInt8} (hs : P.underlying s = some (.slice e)) (he : P.underlying e = some (.int .u8)) (ht : P.underlying t = some .string)
  (hx : ev ρ x = .slice A n c) (h : Sl w A n 1 (jQ l)) : (execOp (ev ρ) ⟨dd, .convert s t x, ty, pos, af, g⟩).run P w = .ok (.value (.string ⟨l.toArray⟩)) w := by
 simp [execOp, hx, run_convert_bytes_string w s t e A n c hs he ht, vF h]
theorem yW (hh : Hp w0 H w) {s t e : TypeId} {x : Operand} {b : ByteArray} (hs : P.underlying s = some .string) (ht : P.underlying t = some (.slice e)) (he : P.underlying e = some (.int .u8)) (hx : ev ρ x = .string b) (hN : d < N)
  (k : ∀ g c ex w', Hp w0 (.blk g e (jQ b.data.toList ++ ex) ((jQ b.data.toList ++ ex).length, (jQ b.data.toList ++ ex).length + 1) :: H) w' → WL ro P N ops Q rest (cI ρ d (.slice (some ⟨g, 0, none⟩) b.size c)) w') :
  WL ro P N ops Q (⟨some d, .convert s t x, ty, pos, af, none⟩ :: rest) ρ w := by
 let c := grownCap w b.size 0 e
 let ex : List Value := List.replicate (c - b.size) (.int .u8 0)
 let cells : List Value := jQ b.data.toList ++ ex
 let w1 := w.drew.alloc (.cells cells.toArray e)
 let w' := w1.freeze ⟨w.heap.size, cells.length, none⟩ 1
 have hw1 : w1.heap[w.heap.size]? = some (.cells cells.toArray e (0, 0)) := heap_alloc_new w.drew _;have hheap : w'.heap[w.heap.size]? = some (.cells cells.toArray e (cells.length, cells.length + 1)) := by
  show (w1.heap.modify w.heap.size _)[w.heap.size]? = _;rw [Array.getElem?_modify, UF rfl, hw1];simp
 have hbl : Below w.heap.size w w' := by
  refine ⟨rfl, rfl, rfl, ?_, fun j hj => ?_⟩
  ·show w.heap.size ≤ (w1.heap.modify w.heap.size _).size;rw [Array.size_modify];show w.heap.size ≤ w1.heap.size;simp [w1]
  ·show (w1.heap.modify w.heap.size _)[j]? = _;rw [Array.getElem?_modify, UE Uz];exact Below.heap_alloc w.drew _ j hj
 refine aQ rfl rfl hN (w' := w') (v := .slice (some ⟨w.heap.size, 0, none⟩) b.size c) ?_ (k w.heap.size c ex w' (hh.aV hbl ⟨UH _, hheap, .inl (UH _)⟩));have harr : (b.data.map fun b => Value.int .u8 b.toNat) ++ Array.replicate (c - b.size) (Value.int .u8 0) = cells.toArray := by
  apply Xj;simp [cells, ex, jQ]
 have hsh : w1.shape? w.heap.size = some (e, cells.length) := by simp [World.shape?, hw1]
 have hch : (choose (.appendCap b.size 0 e)).run P w = .ok c w.drew := by simp [choose, Sem.run, Question.forced, grownCap, c]
 have hnr : (newRow e cells.toArray).run P w.drew = .ok ⟨w.heap.size, 0, none⟩ w1 := by simp [newRow, w1]
 have hms : (markStringish ⟨w.heap.size, 0, none⟩).run P w1 = .ok () w' := by simp [markStringish, shape, Sem.run, hsh, freeze, w']
 simp only [execOp, hx, convert, Sem.run_bind, run_underlying hs, run_underlying ht, run_underlying he, Result.andThen_ok, Conv.stringToBytes];rw [hch, Result.andThen_ok, harr, hnr, Result.andThen_ok, hms, Result.andThen_ok, Sem.run_pure, Result.andThen_ok, Sem.run_pure]
theorem ym (hh : Hp w0 H w) {t : TypeId} {x : Operand} {s : ByteArray} (ht : P.underlying t = some .string) (hx : ev ρ x = .string s) (hN : d < N)
  (k : ∀ b w', Hp w0 (.it b s 0 :: H) w' → WL ro P N ops Q rest (cI ρ d (.pointer (some ⟨b, 0, none⟩))) w') : WL ro P N ops Q (⟨some d, .range t x, ty, pos, af, none⟩ :: rest) ρ w := by
 refine aQ rfl rfl hN (w' := w.alloc (.stringIter s 0)) (v := .pointer (some ⟨w.heap.size, 0, none⟩)) (by simp [execOp, hx, Instr.range, run_underlying ht]) (k _ _ (hh.aV ((Below.refl _ _).alloc (UH _) _) ⟨UH _, heap_alloc_new w _⟩))
theorem xJ (hh : Hp w0 H w) {x : Operand} {i b p : Nat} {s : ByteArray} (hi : H[i]? = some (.it b s p)) (hx : ev ρ x = .pointer (some ⟨b, 0, none⟩)) (hp : ¬ p < s.size) (hN : d < N)
  (k : WL ro P N ops Q rest (cI ρ d (.tuple #[.bool false])) w) : WL ro P N ops Q (⟨some d, .next x true, ty, pos, af, none⟩ :: rest) ρ w := by
 have h1 := (hh.at_ hi).2;refine aQ rfl rfl hN (w' := w) (v := .tuple #[.bool false]) ?_ k;simp [execOp, hx, Instr.next, getObj, Sem.run, h1, hp]
theorem yV (hh : Hp w0 H w) {x : Operand} {i b p : Nat} {s : ByteArray} {c : UInt8} (hi : H[i]? = some (.it b s p)) (hx : ev ρ x = .pointer (some ⟨b, 0, none⟩)) (hc : s.data.toList[p]? = some c) (h128 : c.toNat < 128) (hN : d < N)
  (k : ∀ w', Hp w0 (H.set i (.it b s (p + 1))) w' → WL ro P N ops Q rest (cI ρ d (.tuple #[.bool true, .int .i64 p, .int .i32 c.toNat])) w') : WL ro P N ops Q (⟨some d, .next x true, ty, pos, af, none⟩ :: rest) ρ w := by
 have h1 := (hh.at_ hi).2;obtain ⟨hlt, hcc⟩ := UW.1 hc;have hlt' : p < s.size := by simpa using hlt
 have hget : s.get! p = c := by
  have : s.get! p = s.data[p]! := rfl;rw [this, getElem!_pos s.data p hlt'];simpa using hcc
 have hdec : Utf8.decode s p = (c.toNat, 1) := by
  unfold Utf8.decode;simp only [We, hget];rw [UF h128]
 let w' : World := { w with heap := w.heap.setIfInBounds b (.stringIter s (p + 1)) }
 have hb := dO (hh.at_ hi) (b := b) rfl;have hg : w.grownBy w' (some b) := ⟨rfl, rfl, rfl, by simp [w'], fun k _ hne => by
  show (w.heap.setIfInBounds b _)[k]? = _;rw [Array.getElem?_setIfInBounds_ne (fun e => hne (by rw [e]))]⟩
 refine aQ rfl rfl hN (w' := w') (v := .tuple #[.bool true, .int .i64 p, .int .i32 c.toNat]) ?_ (k w' (hh.grown hi hg (.inl rfl) ⟨hb.1, ?_⟩))
 ·simp [execOp, hx, Instr.next, getObj, setObj, Sem.run, h1, hlt', hdec, goInt, w']
 ·show (w.heap.setIfInBounds b _)[b]? = _;simp [hb.2]
end
end
class UK (k : IntKind) (b : outParam Nat) (M : outParam Nat) : Prop where
 bits : k.bits = b
 sgn : k.signed = false
 pow : 2 ^ b = M
instance : UK .u8 8 256 := ⟨rfl, rfl, rfl⟩
instance : UK .u16 16 65536 := ⟨rfl, rfl, rfl⟩
instance : UK .u32 32 4294967296 := ⟨rfl, rfl, rfl⟩
instance : UK .u64 64 18446744073709551616 := ⟨rfl, rfl, rfl⟩
theorem UK.wrap {k : IntKind} {b M : Nat} [h : UK k b M] (n : Nat) : k.wrap (n : Int) = ((n % M : Nat) : Int) := by
 unfold IntKind.wrap;have hM : (2 : Int) ^ k.bits = (M : Int) := by rw [h.bits, ← h.pow]; simp
 simp only [h.sgn, hM, Bool.false_and];simp
theorem UK.pM {k : IntKind} {b M : Nat} [UK k b M] {n : Nat} (hn : n < M) : k.wrap (n : Int) = (n : Int) := by rw [UK.wrap, Vh hn]
theorem UK.wrap_add {k : IntKind} {b M : Nat} [h : UK k b M] (z : Int) : k.wrap (z + M) = k.wrap z := by
 unfold IntKind.wrap;have hM : (2 : Int) ^ k.bits = (M : Int) := by rw [h.bits, ← h.pow]; simp
 simp [hM]
section
variable {P : Program} {ρ : Rf} {w : World} {d : Option Nat} {ty : TypeId} {pos : String} {af : Array Edge} {g : Option (Nat × Bool)}
section unats
variable {t u : TypeId} {x y : Operand} {k : IntKind} {q M : Nat} {a b : Nat}
theorem Px [UK k q M] (hx : ev ρ x = .int k (a : Int)) (hy : ev ρ y = .int k (b : Int)) : (execOp (ev ρ) ⟨d, .binOp .add t x y u, ty, pos, af, g⟩).run P w = .ok (.value (.int k (((a + b) % M : Nat) : Int))) w := by
 rw [NV hx hy, ← WE, UK.wrap]
theorem QN [UK k q M] (hx : ev ρ x = .int k (a : Int)) (hy : ev ρ y = .int k (b : Int)) (hb : b ≤ M) : (execOp (ev ρ) ⟨d, .binOp .sub t x y u, ty, pos, af, g⟩).run P w = .ok (.value (.int k (((a + M - b) % M : Nat) : Int))) w := by
 rw [Nv hx hy, ← UK.wrap (k := k)];have h : ((a + M - b : Nat) : Int) = (a : Int) - b + M := Uz;rw [h, UK.wrap_add]
theorem Pf [UK k q M] (hx : ev ρ x = .int k (a : Int)) (hy : ev ρ y = .int k (b : Int)) : (execOp (ev ρ) ⟨d, .binOp .mul t x y u, ty, pos, af, g⟩).run P w = .ok (.value (.int k (((a * b) % M : Nat) : Int))) w := by
 rw [N8 hx hy, ← V2, UK.wrap]
theorem PR [UK k q M] (hx : ev ρ x = .int k (a : Int)) (hy : ev ρ y = .int k (b : Int)) (hb : 0 < b) (ha : a < M) : (execOp (ev ρ) ⟨d, .binOp .quo t x y u, ty, pos, af, g⟩).run P w = .ok (.value (.int k ((a / b : Nat) : Int))) w := by
 rw [Om hx hy Uz, ← Int.ofNat_tdiv, UK.pM (VK (Xe _ _) ha)]
theorem PQ (hx : ev ρ x = .int k (a : Int)) (hy : ev ρ y = .int k (b : Int)) (hb : 0 < b) : (execOp (ev ρ) ⟨d, .binOp .rem t x y u, ty, pos, af, g⟩).run P w = .ok (.value (.int k ((a % b : Nat) : Int))) w := by
 rw [Pb hx hy Uz, ← Int.ofNat_tmod]
theorem nE (n : Nat) (a : Nat) : BitVec.ofInt n (a : Int) = BitVec.ofNat n a := by simp
theorem SG [h : UK k q M] (hx : ev ρ x = .int k (a : Int)) (hy : ev ρ y = .int k (b : Int)) (ha : a < M) (hb : b < M) : (execOp (ev ρ) ⟨d, .binOp .or t x y u, ty, pos, af, g⟩).run P w = .ok (.value (.int k ((a ||| b : Nat) : Int))) w := by
 rw [Tb hx hy, nE, nE, BitVec.toNat_or, BitVec.toNat_ofNat, BitVec.toNat_ofNat, h.bits, h.pow, Vh ha, Vh hb, UK.pM];rw [← h.pow] at ha hb ⊢;exact Nat.or_lt_two_pow ha hb
theorem QU [h : UK k q M] (hx : ev ρ x = .int k (a : Int)) (hy : ev ρ y = .int k (b : Int)) (ha : a < M) (hb : b < M) : (execOp (ev ρ) ⟨d, .binOp .and t x y u, ty, pos, af, g⟩).run P w = .ok (.value (.int k ((a &&& b : Nat) : Int))) w := by
 rw [OY hx hy, nE, nE, BitVec.toNat_and, BitVec.toNat_ofNat, BitVec.toNat_ofNat, h.bits, h.pow, Vh ha, Vh hb, UK.pM];exact VK Nat.and_le_left ha
theorem yx [h : UK k q M] {k' : IntKind} {s : Int} (hx : ev ρ x = .int k (a : Int)) (hy : ev ρ y = .int k' s) (hs : 0 ≤ s ∧ s ≤ q) : (execOp (ev ρ) ⟨d, .binOp .shl t x y u, ty, pos, af, g⟩).run P w = .ok (.value (.int k (((a * 2 ^ s.toNat) % M : Nat) : Int))) w := by
 have e : (a : Int) * 2 ^ (min s.toNat k.bits) = ((a * 2 ^ s.toNat : Nat) : Int) := by
  rw [h.bits, VM Uz, V2, Int.natCast_pow]; rfl
 rw [R6 hx hy hs.1, e, UK.wrap]
theorem Dr [h : UK k q M] {k' : IntKind} {s : Int} (hx : ev ρ x = .int k (a : Int)) (hy : ev ρ y = .int k' s) (hs : 0 ≤ s ∧ s ≤ q) : (execOp (ev ρ) ⟨d, .binOp .shr t x y u, ty, pos, af, g⟩).run P w = .ok (.value (.int k ((a / 2 ^ s.toNat : Nat) : Int))) w := by
 rw [Rx hx hy hs.1, h.bits, VM Uz, Int.fdiv_eq_ediv_of_nonneg _ (Int.le_of_lt (Int.pow_pos Uz))];simp
theorem M6 [UK k q M] {k' : IntKind} {s m : Nat} (hx : ev ρ x = .int k (a : Int)) (hy : ev ρ y = .int k' (s : Int)) (hs : s ≤ q) (hm : 2 ^ s = m) : (execOp (ev ρ) ⟨d, .binOp .shr t x y u, ty, pos, af, g⟩).run P w = .ok (.value (.int k ((a / m : Nat) : Int))) w := by
 rw [Dr hx hy Uz, ← hm]; rfl
theorem QQ [h : UK k q M] (hx : ev ρ x = .int k (a : Int)) (ha : a ≤ M) : (execOp (ev ρ) ⟨d, .unOp .neg t x, ty, pos, af, g⟩).run P w = .ok (.value (.int k (((M - a) % M : Nat) : Int))) w := by
 rw [NI hx, ← UK.wrap (k := k)];have e : ((M - a : Nat) : Int) = -(a : Int) + M := Uz;rw [e, UK.wrap_add]
theorem Lp [UK k q M] {s t : TypeId} {k' : IntKind} {sd : TypeDesc} (hs : P.underlying s = some sd) (ht : P.underlying t = some (.int k)) (hx : ev ρ x = .int k' (a : Int)) :
  (execOp (ev ρ) ⟨d, .convert s t x, ty, pos, af, g⟩).run P w = .ok (.value (.int k ((a % M : Nat) : Int))) w := by
 rw [lP hs ht hx, UK.wrap]
theorem u4 [UK k q M] {s t : TypeId} {k' : IntKind} {sd : TypeDesc} (hs : P.underlying s = some sd) (ht : P.underlying t = some (.int k)) (hx : ev ρ x = .int k' (a : Int)) (ha : a < M) :
  (execOp (ev ρ) ⟨d, .convert s t x, ty, pos, af, g⟩).run P w = .ok (.value (.int k (a : Int))) w := by
 rw [lP hs ht hx, UK.pM ha]
end unats
section ints
variable {t u : TypeId} {x y : Operand} {k : IntKind} {a b : Int}
theorem Ll (hx : ev ρ x = .int k a) (hy : ev ρ y = .int k b) : (execOp (ev ρ) ⟨d, .binOp .lss t x y u, ty, pos, af, g⟩).run P w = .ok (.value (.bool (decide (a < b)))) w := by
 by_cases h : a < b
 ·rw [MZ hx hy h, U0 h]
 ·rw [Ni hx hy h, Vf h]
theorem Ng (hx : ev ρ x = .int k a) (hy : ev ρ y = .int k b) : (execOp (ev ρ) ⟨d, .binOp .leq t x y u, ty, pos, af, g⟩).run P w = .ok (.value (.bool (decide (a ≤ b)))) w := by
 by_cases h : a ≤ b
 ·rw [My hx hy h, U0 h]
 ·rw [Md hx hy h, Vf h]
theorem Ft (hx : ev ρ x = .int k a) (hy : ev ρ y = .int k b) : (execOp (ev ρ) ⟨d, .binOp .gtr t x y u, ty, pos, af, g⟩).run P w = .ok (.value (.bool (decide (b < a)))) w := by
 by_cases h : b < a
 ·rw [MJ hx hy h, U0 h]
 ·rw [Lc hx hy h, Vf h]
theorem Ns (hx : ev ρ x = .int k a) (hy : ev ρ y = .int k b) : (execOp (ev ρ) ⟨d, .binOp .geq t x y u, ty, pos, af, g⟩).run P w = .ok (.value (.bool (decide (b ≤ a)))) w := by
 by_cases h : b ≤ a
 ·rw [Ml hx hy h, U0 h]
 ·rw [MY hx hy h, Vf h]
theorem K5 (hx : ev ρ x = .int k a) (hy : ev ρ y = .int k b) : (execOp (ev ρ) ⟨d, .binOp .neq t x y u, ty, pos, af, g⟩).run P w = .ok (.value (.bool (decide (a ≠ b)))) w := by
 by_cases h : a = b
 ·rw [LM hx hy h, Vf (by simpa using h)]
 ·rw [Lz hx hy h, U0 h]
end ints
section bools
variable {t u : TypeId} {x y : Operand} {a b : Bool}
theorem Nc (ht : P.underlying t = some .bool) (hx : ev ρ x = .bool a) (hy : ev ρ y = .bool b) (h : a = b) : (execOp (ev ρ) ⟨d, .binOp .eql t x y u, ty, pos, af, g⟩).run P w = .ok (.value (.bool true)) w := by
 rw [vm ht hx hy, h, beq_self_eq_true]
theorem Lf (ht : P.underlying t = some .bool) (hx : ev ρ x = .bool a) (hy : ev ρ y = .bool b) (h : ¬ a = b) : (execOp (ev ρ) ⟨d, .binOp .eql t x y u, ty, pos, af, g⟩).run P w = .ok (.value (.bool false)) w := by
 rw [vm ht hx hy, beq_false_of_ne h]
theorem Mp (ht : P.underlying t = some .bool) (hx : ev ρ x = .bool a) (hy : ev ρ y = .bool b) (h : ¬ a = b) : (execOp (ev ρ) ⟨d, .binOp .neq t x y u, ty, pos, af, g⟩).run P w = .ok (.value (.bool true)) w := by
 rw [oB ht hx hy, bne, beq_false_of_ne h]; rfl
theorem Mh (ht : P.underlying t = some .bool) (hx : ev ρ x = .bool a) (hy : ev ρ y = .bool b) (h : a = b) : (execOp (ev ρ) ⟨d, .binOp .neq t x y u, ty, pos, af, g⟩).run P w = .ok (.value (.bool false)) w := by
 rw [oB ht hx hy, bne, h, beq_self_eq_true]; rfl
end bools
theorem ie {t e : TypeId} {x i : Operand} {ad : Addr} {n c sz k : Nat} {kk : IntKind} {m : Int} (ht : P.underlying t = some (.slice e)) (hsz : (P.info? e).map (·.size) = some sz) (hx : ev ρ x = .slice (some ad) n c) (hi : ev ρ i = .int kk m)
  (hm : m = (k : Int)) (h1 : k < n) : (execOp (ev ρ) ⟨d, .indexAddr t x i, ty, pos, af, g⟩).run P w = .ok (.value (.pointer (some (ad.add (k * sz))))) w := by
 rw [dA ht hsz hx hi Uz Uz, hm]; rfl
theorem B3 {t e : TypeId} {x i : Operand} {b o n c sz k : Nat} {kk : IntKind} {m : Int} (ht : P.underlying t = some (.slice e)) (hsz : (P.info? e).map (·.size) = some sz) (hx : ev ρ x = .slice (some ⟨b, o, none⟩) n c) (hi : ev ρ i = .int kk m)
  (hm : m = (k : Int)) (h1 : k < n) : (execOp (ev ρ) ⟨d, .indexAddr t x i, ty, pos, af, g⟩).run P w = .ok (.value (.pointer (some ⟨b, o + k * sz, none⟩))) w := by
 rw [dA ht hsz hx hi Uz Uz, hm, fD]; rfl
theorem Ce {t e : TypeId} {x i : Operand} {ad : Addr} {n sz k : Nat} {kk : IntKind} {m : Int} (ht : P.underlying t = some (.array n e)) (hsz : (P.info? e).map (·.size) = some sz) (hx : ev ρ x = .pointer (some ad)) (hi : ev ρ i = .int kk m)
  (hm : m = (k : Int)) (h1 : k < n) : (execOp (ev ρ) ⟨d, .indexAddr t x i, ty, pos, af, g⟩).run P w = .ok (.value (.pointer (some (ad.add (k * sz))))) w := by
 obtain ⟨i, hi1, hi2⟩ := Wc.1 hsz;have h2 : (k : Int) < n := Uz;subst hm;simp [execOp, hx, hi, Instr.indexAt, asIntOf, run_underlying ht, sizeOf, typeInfo, hi1, hi2, Instr.sureAddr, h1]
theorem Az {t e : TypeId} {x hi : Operand} {A : Option Addr} {n c h sz : Nat} {k : IntKind} {m : Int} (ht : P.underlying t = some (.slice e)) (hsz : (P.info? e).map (·.size) = some sz) (hx : ev ρ x = .slice A n c) (hhi : ev ρ hi = .int k m)
  (hm : m = (h : Int)) (h2 : h ≤ c) : (execOp (ev ρ) ⟨d, .slice t x none (some hi) none, ty, pos, af, g⟩).run P w = .ok (.value (.slice A h c)) w := by
 rw [jf (lo := none) (hi := some hi) (l := 0) (h := h) ht hsz hx rfl ⟨k, m, hhi, hm⟩ (UI _) h2];congr 3
 cases A with
 | none => simp
 | some ad => simp [Addr.add]
theorem Db {t e : TypeId} {x lo : Operand} {b o n c l sz : Nat} {k : IntKind} {m : Int} (ht : P.underlying t = some (.slice e)) (hsz : (P.info? e).map (·.size) = some sz) (hx : ev ρ x = .slice (some ⟨b, o, none⟩) n c) (hlo : ev ρ lo = .int k m)
  (hm : m = (l : Int)) (h1 : l ≤ n) (h2 : n ≤ c) (h3 : l < c) : (execOp (ev ρ) ⟨d, .slice t x (some lo) none none, ty, pos, af, g⟩).run P w = .ok (.value (.slice (some ⟨b, o + l * sz, none⟩) (n - l) (c - l))) w := by
 rw [jf (lo := some lo) (hi := none) (l := l) (h := n) ht hsz hx ⟨k, m, hlo, hm⟩ rfl h1 h2, UE Uz];simp only [Wj, fD]
theorem BB {t e : TypeId} {x lo : Operand} {ad : Addr} {n c l sz : Nat} {k : IntKind} {m : Int} (ht : P.underlying t = some (.slice e)) (hsz : (P.info? e).map (·.size) = some sz) (hx : ev ρ x = .slice (some ad) n c) (hlo : ev ρ lo = .int k m)
  (hm : m = (l : Int)) (h1 : l ≤ n) (h2 : n ≤ c) (h3 : l < c) : (execOp (ev ρ) ⟨d, .slice t x (some lo) none none, ty, pos, af, g⟩).run P w = .ok (.value (.slice (some (ad.add (l * sz))) (n - l) (c - l))) w := by
 rw [jf (lo := some lo) (hi := none) (l := l) (h := n) ht hsz hx ⟨k, m, hlo, hm⟩ rfl h1 h2, UE Uz]
 rfl
end
theorem Rd.ya {w : World} {ad : Addr} {xs : List Value} {k : Nat} {v : Value} (h : Rd w ad xs) (hx : xs[k]? = some v) : w.cell? (ad.add (k * 1)) = some v := by
 rw [U3]; exact h k v hx
def db (l : List Nat) : List Value := l.map fun (d : Nat) => .int .u64 (d : Int)
theorem a8 (l : List Nat) : (db l).length = l.length := by simp [db]
theorem ee {l : List Nat} {k d : Nat} (h : l[k]? = some d) : (db l)[k]? = some (.int .u64 (d : Int)) := by simp [db, h]
theorem fT (l : List Nat) (k d : Nat) : (db l).set k (.int .u64 (d : Int)) = db (l.set k d) := by simp [db, WT]
theorem Bf (a b : List Nat) : db (a ++ b) = db a ++ db b := by simp [db]
theorem wU (a : List Nat) (k : Nat) : db (a.take k) = (db a).take k := by simp [db, XB]
theorem wZ (a : List Nat) (k : Nat) : db (a.drop k) = (db a).drop k := by simp [db, Xr]
theorem dh (l : List Nat) : ((db l).all Value.oneCell') = true := by simp [db, Value.oneCell']
theorem pB (n : Nat) : fM n [Value.int .u64 0] = db (List.replicate n 0) := by rw [uO]; simp [db]
def gJ (l : List Nat) : List Value := l.map fun (d : Nat) => .int .u8 (d : Int)
theorem cO (l : List Nat) : (gJ l).length = l.length := by simp [gJ]
theorem rh {l : List Nat} {k d : Nat} (h : l[k]? = some d) : (gJ l)[k]? = some (.int .u8 (d : Int)) := by simp [gJ, h]
theorem pT (l : List Nat) (k d : Nat) : (gJ l).set k (.int .u8 (d : Int)) = gJ (l.set k d) := by simp [gJ, WT]
theorem tX (a b : List Nat) : gJ (a ++ b) = gJ a ++ gJ b := by simp [gJ]
theorem z3 (a : List Nat) (k : Nat) : gJ (a.take k) = (gJ a).take k := by simp [gJ, XB]
theorem dz (l : List Nat) : ((gJ l).all Value.oneCell') = true := by simp [gJ, Value.oneCell']
theorem qj (n : Nat) : fM n [Value.int .u8 0] = gJ (List.replicate n 0) := by rw [uO]; simp [gJ]
theorem Gq {l : List Nat} (h : ∀ d ∈ l, d < 256) : gJ l = jQ (l.map UInt8.ofNat) := by
 rw [gJ, jQ, VE];apply Ws;intro d hd;have := h d hd;simp only [Function.comp, X2];congr 2;omega
theorem Sl.QD {w : World} {ad : Addr} {n : Nat} {ys : List Nat} {k d : Nat} (h : Sl w (some ad) n 1 (db ys)) (hd : ys[k]? = some d) : w.cell? (ad.add (k * 1)) = some (.int .u64 (d : Int)) := by
 have hl := h.1;have hk := (UW.1 hd).1;rw [a8] at hl;obtain ⟨ad', he, hr⟩ := h.2 Uz;injection he with he
 subst he;exact hr.ya (ee hd)
theorem ye {pre done r post : List Nat} {x : Nat} : (pre ++ (done ++ x :: r) ++ post)[pre.length + done.length]? = some x := by
 rw [Vt, VW Uz, Vt, VW Uz];simp
theorem nj {pre done r post : List Nat} {x y : Nat} : (pre ++ (done ++ x :: r) ++ post).set (pre.length + done.length) y = pre ++ ((done ++ [y]) ++ r) ++ post := by
 rw [Vt, WW _ _ Uz, Vt, WW _ _ Uz];simp
theorem cJ {cs : List Value} {o : Nat} {v : Value} (h : o < cs.length) : cm cs o [v] = cs.set o v := by
 unfold cm;rw [XT, UF h];simp
theorem Hp.front {w0 w : World} {H : List HE} {x : HE} (h : Hp w0 H w) (i : Nat) (hi : H[i]? = some x) : Hp w0 (x :: H.eraseIdx i) w := by
 have hp : H.Perm (x :: H.eraseIdx i) := by
  clear h
  induction H generalizing i with
  | nil => simp at hi
  | cons y H ih =>
   cases i with
   | zero => simp at hi; subst hi; simp
   | succ i =>
    simp only [Xn] at hi;simp only [List.eraseIdx_cons_succ];exact ((ih i hi).cons y).trans (List.Perm.swap x y _)
 exact ⟨h.below, fun y hy => h.own y (hp.mem_iff.2 hy), (hp.filterMap _).nodup_iff.1 h.nd⟩
theorem Hp.CO {w0 w : World} {H : List HE} {A : Option Addr} {n c : Nat} {t : TypeId} {sz : Nat} {xs : List Value} (h : Hp w0 (.row A n c t sz xs :: H) w) {k : Nat} (hk : k ≤ n) : Hp w0 (.row A k c t sz (xs.take (k * sz)) :: H) w := by
 refine ⟨h.below, fun y hy => ?_, h.nd⟩
 rcases UZ.1 hy with rfl | hy
 ·have h1 : w.ownsRow w0.heap.size t sz (.slice A n c) n xs := h.own _ UR;obtain ⟨h2, h3⟩ := h1;have hkn : k * sz ≤ n * sz := VG _ hk;refine ⟨by rw [U6]; omega, ?_⟩
  rcases h3 with ⟨h3, h4⟩ | ⟨g, cap, cur, hv, hb, hg, h4, h5, h6, h7⟩
  ·injection h3 with h5 h6 h7
   subst h5 h6 h7;exact .inl ⟨by rw [show k = 0 by omega], Uz⟩
  ·injection hv with h8 h9 h10
   subst h8;refine .inr ⟨g, cap, cur, by rw [h10], hb, hg, Uz, h5, h6, ?_⟩;rw [← h7, List.take_take, VM hkn]
 ·exact h.own y (UT _ hy)
theorem Hp.fN {w0 w : World} {H : List HE} {A : Option Addr} {n c : Nat} {t : TypeId} {sz : Nat} {xs : List Value} {i : Nat} (h : Hp w0 H w) (hi : H[i]? = some (.row A n c t sz xs)) : n ≤ c := by
 have h1 : w.ownsRow w0.heap.size t sz (.slice A n c) n xs := h.at_ hi
 rcases h1.2 with ⟨h3, h4⟩ | ⟨g, cap, cur, hv, hb, hg, h4, h5, h6, h7⟩
 ·omega
 ·injection hv with h8 h9 h10
  omega
section
variable {ro : Mode}
section
variable {P : Program} {N : Nat} {ops : Array Oper} {Q : Kq} {ρ : Rf} {w w0 : World} {rest : List Oper} {H : List HE} {d : Nat} {ty : TypeId} {pos : String} {af : Array Edge}
theorem qY {x : Operand} {v : Value} (hx : ev ρ x = v) (hN : d < N) (kk : WL ro P N ops Q rest (cI ρ d v) w) :
  WL ro P N ops Q (⟨some d, .move x, ty, pos, af, none⟩ :: rest) ρ w := aQ rfl rfl hN (eJ hx) kk
theorem j8 {x : Operand} {v : Value} (hx : ev ρ x = v) (hN : d < N) (kk : WL ro P N ops Q rest (cI ρ d v) w) :
  WL ro P N ops Q (⟨some d, .assign x, ty, pos, af, none⟩ :: rest) ρ w := aQ rfl rfl hN (HU hx) kk
theorem KU {c a b : Operand} {v : Value} (hc : ev ρ c = .bool true) (hx : ev ρ a = v) (hN : d < N) (kk : WL ro P N ops Q rest (cI ρ d v) w) :
  WL ro P N ops Q (⟨some d, .pick c a b, ty, pos, af, none⟩ :: rest) ρ w := aQ rfl rfl hN (zD hc hx) kk
theorem JD {c a b : Operand} {v : Value} (hc : ev ρ c = .bool false) (hx : ev ρ b = v) (hN : d < N) (kk : WL ro P N ops Q rest (cI ρ d v) w) :
  WL ro P N ops Q (⟨some d, .pick c a b, ty, pos, af, none⟩ :: rest) ρ w := aQ rfl rfl hN (BK hc hx) kk
section
variable {t u : TypeId} {x y : Operand} {k : IntKind} {a b : Int}
theorem Ej (hx : ev ρ x = .int k a) (hy : ev ρ y = .int k b) (hN : d < N) (kk : WL ro P N ops Q rest (cI ρ d (.bool (decide (a = b)))) w) :
  WL ro P N ops Q (⟨some d, .binOp .eql t x y u, ty, pos, af, none⟩ :: rest) ρ w := aQ rfl rfl hN (ET hx hy) kk
theorem PY (hx : ev ρ x = .int .i64 a) (hy : ev ρ y = .int .i64 b) (h1 : -9223372036854775808 ≤ a + b) (h2 : a + b ≤ 9223372036854775807) (hN : d < N) (kk : WL ro P N ops Q rest (cI ρ d (.int .i64 (a + b))) w) :
  WL ro P N ops Q (⟨some d, .binOp .add t x y u, ty, pos, af, none⟩ :: rest) ρ w := aQ rfl rfl hN (H3 hx hy h1 h2) kk
theorem Qx (hx : ev ρ x = .int .i64 a) (hy : ev ρ y = .int .i64 b) (h1 : -9223372036854775808 ≤ a - b) (h2 : a - b ≤ 9223372036854775807) (hN : d < N) (kk : WL ro P N ops Q rest (cI ρ d (.int .i64 (a - b))) w) :
  WL ro P N ops Q (⟨some d, .binOp .sub t x y u, ty, pos, af, none⟩ :: rest) ρ w := aQ rfl rfl hN (ID hx hy h1 h2) kk
theorem PA (hx : ev ρ x = .int .i64 a) (hy : ev ρ y = .int .i64 b) (h1 : -9223372036854775808 ≤ a * b) (h2 : a * b ≤ 9223372036854775807) (hN : d < N) (kk : WL ro P N ops Q rest (cI ρ d (.int .i64 (a * b))) w) :
  WL ro P N ops Q (⟨some d, .binOp .mul t x y u, ty, pos, af, none⟩ :: rest) ρ w := aQ rfl rfl hN (JX hx hy h1 h2) kk
theorem yM (hx : ev ρ x = .int .i64 a) (h1 : -9223372036854775808 ≤ -a) (h2 : -a ≤ 9223372036854775807) (hN : d < N) (kk : WL ro P N ops Q rest (cI ρ d (.int .i64 (-a))) w) :
  WL ro P N ops Q (⟨some d, .unOp .neg t x, ty, pos, af, none⟩ :: rest) ρ w := aQ rfl rfl hN (Jg hx h1 h2) kk
theorem Qn (hx : ev ρ x = .int .i64 a) (hy : ev ρ y = .int .i64 b) (ha : 0 ≤ a) (hb : 0 < b) (h2 : a ≤ 9223372036854775807) (hN : d < N) (kk : WL ro P N ops Q rest (cI ρ d (.int .i64 (a / b))) w) :
  WL ro P N ops Q (⟨some d, .binOp .quo t x y u, ty, pos, af, none⟩ :: rest) ρ w := aQ rfl rfl hN (qE hx hy ha hb h2) kk
theorem QH (hx : ev ρ x = .int .i64 a) (hy : ev ρ y = .int .i64 b) (ha : 0 ≤ a) (hb : 0 < b) (hN : d < N) (kk : WL ro P N ops Q rest (cI ρ d (.int .i64 (a % b))) w) :
  WL ro P N ops Q (⟨some d, .binOp .rem t x y u, ty, pos, af, none⟩ :: rest) ρ w := aQ rfl rfl hN (oM hx hy ha hb) kk
end
theorem SK {t : TypeId} {x : Operand} {b : Bool} (hx : ev ρ x = .bool b) (hN : d < N) (kk : WL ro P N ops Q rest (cI ρ d (.bool !b)) w) :
  WL ro P N ops Q (⟨some d, .unOp .not t x, ty, pos, af, none⟩ :: rest) ρ w := aQ rfl rfl hN (OZ hx) kk
section
variable {t u : TypeId} {x y : Operand} {a b : Bool}
end
section
variable {t u : TypeId} {x y : Operand} {a b : ByteArray}
theorem kp (hx : ev ρ x = .string a) (hy : ev ρ y = .string b) (h : a = b) (hN : d < N) (kk : WL ro P N ops Q rest (cI ρ d (.bool true)) w) :
  WL ro P N ops Q (⟨some d, .binOp .eql t x y u, ty, pos, af, none⟩ :: rest) ρ w := aQ rfl rfl hN (zY hx hy h) kk
theorem kB (hx : ev ρ x = .string a) (hy : ev ρ y = .string b) (h : ¬ a = b) (hN : d < N) (kk : WL ro P N ops Q rest (cI ρ d (.bool false)) w) :
  WL ro P N ops Q (⟨some d, .binOp .eql t x y u, ty, pos, af, none⟩ :: rest) ρ w := aQ rfl rfl hN (AY hx hy h) kk
theorem kt (hx : ev ρ x = .string a) (hy : ev ρ y = .string b) (h : ¬ a = b) (hN : d < N) (kk : WL ro P N ops Q rest (cI ρ d (.bool true)) w) :
  WL ro P N ops Q (⟨some d, .binOp .neq t x y u, ty, pos, af, none⟩ :: rest) ρ w := aQ rfl rfl hN (za hx hy h) kk
theorem kA (hx : ev ρ x = .string a) (hy : ev ρ y = .string b) (h : a = b) (hN : d < N) (kk : WL ro P N ops Q rest (cI ρ d (.bool false)) w) :
  WL ro P N ops Q (⟨some d, .binOp .neq t x y u, ty, pos, af, none⟩ :: rest) ρ w := aQ rfl rfl hN (Ay hx hy h) kk
theorem Gh (hx : ev ρ x = .string a) (hy : ev ρ y = .string b) (hN : d < N) (kk : WL ro P N ops Q rest (cI ρ d (.bool (Op.bytesLess a.toList b.toList))) w) :
  WL ro P N ops Q (⟨some d, .binOp .lss t x y u, ty, pos, af, none⟩ :: rest) ρ w := aQ rfl rfl hN (Hb hx hy) kk
theorem Gn (hx : ev ρ x = .string a) (hy : ev ρ y = .string b) (hN : d < N) (kk : WL ro P N ops Q rest (cI ρ d (.bool !(Op.bytesLess a.toList b.toList || a.toList == b.toList))) w) :
  WL ro P N ops Q (⟨some d, .binOp .gtr t x y u, ty, pos, af, none⟩ :: rest) ρ w := aQ rfl rfl hN (Gy hx hy) kk
theorem wI (hx : ev ρ x = .string a) (hy : ev ρ y = .string b) (hN : d < N) (kk : WL ro P N ops Q rest (cI ρ d (.bool !(Op.bytesLess a.toList b.toList))) w) :
  WL ro P N ops Q (⟨some d, .binOp .geq t x y u, ty, pos, af, none⟩ :: rest) ρ w := aQ rfl rfl hN (F4 hx hy) kk
end
theorem ug {s t : TypeId} {x : Operand} {k k' : IntKind} {a : Int} {sd : TypeDesc} (hs : P.underlying s = some sd) (ht : P.underlying t = some (.int k)) (hx : ev ρ x = .int k' a) (hN : d < N) (kk : WL ro P N ops Q rest (cI ρ d (.int k (k.wrap a))) w) :
  WL ro P N ops Q (⟨some d, .convert s t x, ty, pos, af, none⟩ :: rest) ρ w := aQ rfl rfl hN (lP hs ht hx) kk
theorem CI {s t : TypeId} {x : Operand} {k' : IntKind} {a : Int} {sd : TypeDesc} (hs : P.underlying s = some sd) (ht : P.underlying t = some (.int .i64)) (hx : ev ρ x = .int k' a) (h1 : -9223372036854775808 ≤ a) (h2 : a ≤ 9223372036854775807) (hN : d < N) (kk : WL ro P N ops Q rest (cI ρ d (.int .i64 a)) w) :
  WL ro P N ops Q (⟨some d, .convert s t x, ty, pos, af, none⟩ :: rest) ρ w := aQ rfl rfl hN (CD hs ht hx h1 h2) kk
theorem F3 {x : Operand} {i : Nat} {vs : List Value} {v : Value} (hx : ev ρ x = .tuple vs.toArray) (hv : vs[i]? = some v) (hN : d < N) (kk : WL ro P N ops Q rest (cI ρ d v) w) :
  WL ro P N ops Q (⟨some d, .extract x i, ty, pos, af, none⟩ :: rest) ρ w := aQ rfl rfl hN (fH hx hv) kk
theorem tY {fn : Fn} {first captured : Array Operand} {fs cs : List Value} (hf : xf ρ first.toList = fs) (hc : xf ρ captured.toList = cs) (hN : d < N) (kk : WL ro P N ops Q rest (cI ρ d (.func fn fs.toArray cs.toArray)) w) :
  WL ro P N ops Q (⟨some d, .makeFunc fn first captured, ty, pos, af, none⟩ :: rest) ρ w := aQ rfl rfl hN (Cl hf hc) kk
theorem bJ {x : Operand} {t : TypeId} {s : ByteArray} (ht : P.underlying t = some .string) (hx : ev ρ x = .string s) (hN : d < N) (kk : WL ro P N ops Q rest (cI ρ d (.int .i64 s.size)) w) :
  WL ro P N ops Q (⟨some d, .call ⟨.builtin .len, #[x], #[t]⟩, ty, pos, af, none⟩ :: rest) ρ w := aQ rfl rfl hN (F0 ht hx) kk
theorem IY {x : Operand} {t e : TypeId} {A : Option Addr} {n c : Nat} (ht : P.underlying t = some (.slice e)) (hx : ev ρ x = .slice A n c) (hN : d < N) (kk : WL ro P N ops Q rest (cI ρ d (.int .i64 n)) w) :
  WL ro P N ops Q (⟨some d, .call ⟨.builtin .len, #[x], #[t]⟩, ty, pos, af, none⟩ :: rest) ρ w := aQ rfl rfl hN (As ht hx) kk
theorem wN {x y : Operand} {ts : Array TypeId} {k : IntKind} {a b : Int} (hx : ev ρ x = .int k a) (hy : ev ρ y = .int k b) (hN : d < N) (kk : WL ro P N ops Q rest (cI ρ d (.int k (if b < a then b else a))) w) :
  WL ro P N ops Q (⟨some d, .call ⟨.builtin .min, #[x, y], ts⟩, ty, pos, af, none⟩ :: rest) ρ w := aQ rfl rfl hN (R7 hx hy) kk
theorem lv {x y : Operand} {ts : Array TypeId} {k : IntKind} {a b : Int} (hx : ev ρ x = .int k a) (hy : ev ρ y = .int k b) (hN : d < N) (kk : WL ro P N ops Q rest (cI ρ d (.int k (if b > a then b else a))) w) :
  WL ro P N ops Q (⟨some d, .call ⟨.builtin .max, #[x, y], ts⟩, ty, pos, af, none⟩ :: rest) ρ w := aQ rfl rfl hN (Ow hx hy) kk
theorem sk {t : TypeId} {x i : Operand} {s : ByteArray} {n : Int} {k : IntKind} {c : UInt8} (ht : P.underlying t = some .string) (hx : ev ρ x = .string s) (hi : ev ρ i = .int k n)
  (h0 : 0 ≤ n) (hc : s.data.toList[n.toNat]? = some c) (hN : d < N) (kk : WL ro P N ops Q rest (cI ρ d (.int .u8 c.toNat)) w) :
  WL ro P N ops Q (⟨some d, .index t x i, ty, pos, af, none⟩ :: rest) ρ w := aQ rfl rfl hN (rH ht hx hi h0 hc) kk
theorem sf {t : TypeId} {x : Operand} {lo hi : Option Operand} {s : ByteArray} {l h : Nat} (ht : P.underlying t = some .string) (hx : ev ρ x = .string s)
  (hlo : match lo with | none => l = 0 | some o => ∃ (k : IntKind) (n : Int), ev ρ o = .int k n ∧ n = l) (hhi : match hi with | none => h = s.size | some o => ∃ (k : IntKind) (n : Int), ev ρ o = .int k n ∧ n = h)
  (h1 : l ≤ h) (h2 : h ≤ s.size) (hN : d < N) (kk : WL ro P N ops Q rest (cI ρ d (.string (s.extract l h))) w) :
  WL ro P N ops Q (⟨some d, .slice t x lo hi none, ty, pos, af, none⟩ :: rest) ρ w := aQ rfl rfl hN (B0 ht hx hlo hhi h1 h2) kk
theorem Ar {t e : TypeId} {x i : Operand} {ad : Addr} {n c sz : Nat} {k : IntKind} {m : Int} (ht : P.underlying t = some (.slice e)) (hsz : (P.info? e).map (·.size) = some sz) (hx : ev ρ x = .slice (some ad) n c) (hi : ev ρ i = .int k m)
  (h0 : 0 ≤ m) (h1 : m < n) (hN : d < N) (kk : WL ro P N ops Q rest (cI ρ d (.pointer (some (ad.add (m.toNat * sz))))) w) :
  WL ro P N ops Q (⟨some d, .indexAddr t x i, ty, pos, af, none⟩ :: rest) ρ w := aQ rfl rfl hN (dA ht hsz hx hi h0 h1) kk
theorem cX {t e : TypeId} {x i : Operand} {b n c sz k : Nat} {kk : IntKind} {m : Int} (ht : P.underlying t = some (.slice e)) (hsz : (P.info? e).map (·.size) = some sz) (hx : ev ρ x = .slice (some ⟨b, 0, none⟩) n c) (hi : ev ρ i = .int kk m)
  (hm : m = (k : Int)) (h1 : k < n) (hN : d < N) (kk : WL ro P N ops Q rest (cI ρ d (.pointer (some ⟨b, k * sz, none⟩))) w) :
  WL ro P N ops Q (⟨some d, .indexAddr t x i, ty, pos, af, none⟩ :: rest) ρ w := aQ rfl rfl hN (oU ht hsz hx hi hm h1) kk
theorem cw {t : TypeId} {x : Operand} {ad : Addr} {n by' : Nat} {zc vs : List Value} (ht : dr P t = some (n, true, by', zc)) (hx : ev ρ x = .pointer (some ad)) (hr : Rd w ad vs) (hl : vs.length = n) (hN : d < N) (kk : WL ro P N ops Q rest (cI ρ d (.agg vs.toArray)) w) :
  WL ro P N ops Q (⟨some d, .load t x, ty, pos, af, none⟩ :: rest) ρ w := aQ rfl rfl hN (Da ht hx hr hl) kk
theorem bV {t : TypeId} {x : Operand} {ad : Addr} {n by' : Nat} {zc : List Value} {v : Value} (ht : dr P t = some (n, false, by', zc)) (hx : ev ρ x = .pointer (some ad)) (hc : w.cell? ad = some v) (hN : d < N) (kk : WL ro P N ops Q rest (cI ρ d v) w) :
  WL ro P N ops Q (⟨some d, .load t x, ty, pos, af, none⟩ :: rest) ρ w := aQ rfl rfl hN (jN ht hx hc) kk
theorem A0 {s : TypeId} {x : Operand} {f b o off : Nat} {ft : TypeId} (hf : gK P s f = some (off, ft)) (hx : ev ρ x = .pointer (some ⟨b, o, none⟩)) (hN : d < N) (kk : WL ro P N ops Q rest (cI ρ d (.pointer (some ⟨b, o + off, none⟩))) w) :
  WL ro P N ops Q (⟨some d, .fieldAddr s x f, ty, pos, af, none⟩ :: rest) ρ w := aQ rfl rfl hN (r6 hf hx) kk
theorem xZ {s : TypeId} {x : Operand} {f off : Nat} {ad : Addr} {ft : TypeId} (hf : gK P s f = some (off, ft)) (hx : ev ρ x = .pointer (some ad)) (hN : d < N) (kk : WL ro P N ops Q rest (cI ρ d (.pointer (some (ad.add off)))) w) :
  WL ro P N ops Q (⟨some d, .fieldAddr s x f, ty, pos, af, none⟩ :: rest) ρ w := aQ rfl rfl hN (qu hf hx) kk
theorem Np {s : TypeId} {x : Operand} {f off n by' : Nat} {ft : TypeId} {cs vs : Array Value} {zc : List Value} (hf : gK P s f = some (off, ft)) (ht : dr P ft = some (n, true, by', zc)) (hx : ev ρ x = .agg cs) (hv : cs.extract off (off + n) = vs) (hN : d < N) (kk : WL ro P N ops Q rest (cI ρ d (.agg vs)) w) :
  WL ro P N ops Q (⟨some d, .field s x f, ty, pos, af, none⟩ :: rest) ρ w := aQ rfl rfl hN (Nd hf ht hx hv) kk
theorem LR {t : TypeId} {n by' : Nat} {parts : Array (Nat × Operand)} {ps : List (Nat × Value)} {zc cs : List Value} {pl : List (Nat × Nat)} (hte : dr P t = some (n, true, by', zc))
  (hpl : qh P t = some pl)
  (hp : xn ρ parts.toList = ps) (hf : ky (pl[·]?) zc ps = some cs) (hN : d < N) (kk : WL ro P N ops Q rest (cI ρ d (.agg cs.toArray)) w) :
  WL ro P N ops Q (⟨some d, .build t parts, ty, pos, af, none⟩ :: rest) ρ w := aQ rfl rfl hN (sT hte hpl hp hf) kk
theorem rI {s t e : TypeId} {x : Operand} {A : Option Addr} {n c : Nat} {l : List UInt8} (hs : P.underlying s = some (.slice e)) (he : P.underlying e = some (.int .u8)) (ht : P.underlying t = some .string)
  (hx : ev ρ x = .slice A n c) (h : Sl w A n 1 (jQ l)) (hN : d < N) (kk : WL ro P N ops Q rest (cI ρ d (.string ⟨l.toArray⟩)) w) :
  WL ro P N ops Q (⟨some d, .convert s t x, ty, pos, af, none⟩ :: rest) ρ w := aQ rfl rfl hN (jw hs he ht hx h) kk
section
variable {t u : TypeId} {x y : Operand} {k : IntKind} {q M : Nat} {a b : Nat}
theorem iD [UK k q M] (hx : ev ρ x = .int k (a : Int)) (hy : ev ρ y = .int k (b : Int)) (hN : d < N) (kk : WL ro P N ops Q rest (cI ρ d (.int k (((a + b) % M : Nat) : Int))) w) :
  WL ro P N ops Q (⟨some d, .binOp .add t x y u, ty, pos, af, none⟩ :: rest) ρ w := aQ rfl rfl hN (Px hx hy) kk
theorem yU [UK k q M] (hx : ev ρ x = .int k (a : Int)) (hy : ev ρ y = .int k (b : Int)) (hb : b ≤ M) (hN : d < N) (kk : WL ro P N ops Q rest (cI ρ d (.int k (((a + M - b) % M : Nat) : Int))) w) :
  WL ro P N ops Q (⟨some d, .binOp .sub t x y u, ty, pos, af, none⟩ :: rest) ρ w := aQ rfl rfl hN (QN hx hy hb) kk
theorem rl [UK k q M] (hx : ev ρ x = .int k (a : Int)) (hy : ev ρ y = .int k (b : Int)) (hN : d < N) (kk : WL ro P N ops Q rest (cI ρ d (.int k (((a * b) % M : Nat) : Int))) w) :
  WL ro P N ops Q (⟨some d, .binOp .mul t x y u, ty, pos, af, none⟩ :: rest) ρ w := aQ rfl rfl hN (Pf hx hy) kk
theorem PZ [UK k q M] (hx : ev ρ x = .int k (a : Int)) (hy : ev ρ y = .int k (b : Int)) (hb : 0 < b) (ha : a < M) (hN : d < N) (kk : WL ro P N ops Q rest (cI ρ d (.int k ((a / b : Nat) : Int))) w) :
  WL ro P N ops Q (⟨some d, .binOp .quo t x y u, ty, pos, af, none⟩ :: rest) ρ w := aQ rfl rfl hN (PR hx hy hb ha) kk
theorem Cf (hx : ev ρ x = .int k (a : Int)) (hy : ev ρ y = .int k (b : Int)) (hb : 0 < b) (hN : d < N) (kk : WL ro P N ops Q rest (cI ρ d (.int k ((a % b : Nat) : Int))) w) :
  WL ro P N ops Q (⟨some d, .binOp .rem t x y u, ty, pos, af, none⟩ :: rest) ρ w := aQ rfl rfl hN (PQ hx hy hb) kk
theorem Q6 [h : UK k q M] (hx : ev ρ x = .int k (a : Int)) (hy : ev ρ y = .int k (b : Int)) (ha : a < M) (hb : b < M) (hN : d < N) (kk : WL ro P N ops Q rest (cI ρ d (.int k ((a ||| b : Nat) : Int))) w) :
  WL ro P N ops Q (⟨some d, .binOp .or t x y u, ty, pos, af, none⟩ :: rest) ρ w := aQ rfl rfl hN (SG hx hy ha hb) kk
theorem C7 [h : UK k q M] (hx : ev ρ x = .int k (a : Int)) (hy : ev ρ y = .int k (b : Int)) (ha : a < M) (hb : b < M) (hN : d < N) (kk : WL ro P N ops Q rest (cI ρ d (.int k ((a &&& b : Nat) : Int))) w) :
  WL ro P N ops Q (⟨some d, .binOp .and t x y u, ty, pos, af, none⟩ :: rest) ρ w := aQ rfl rfl hN (QU hx hy ha hb) kk
theorem DB [h : UK k q M] {k' : IntKind} {s : Int} (hx : ev ρ x = .int k (a : Int)) (hy : ev ρ y = .int k' s) (hs : 0 ≤ s ∧ s ≤ q) (hN : d < N) (kk : WL ro P N ops Q rest (cI ρ d (.int k ((a / 2 ^ s.toNat : Nat) : Int))) w) :
  WL ro P N ops Q (⟨some d, .binOp .shr t x y u, ty, pos, af, none⟩ :: rest) ρ w := aQ rfl rfl hN (Dr hx hy hs) kk
theorem mg [UK k q M] {k' : IntKind} {s m : Nat} (hx : ev ρ x = .int k (a : Int)) (hy : ev ρ y = .int k' (s : Int)) (hs : s ≤ q) (hm : 2 ^ s = m) (hN : d < N) (kk : WL ro P N ops Q rest (cI ρ d (.int k ((a / m : Nat) : Int))) w) :
  WL ro P N ops Q (⟨some d, .binOp .shr t x y u, ty, pos, af, none⟩ :: rest) ρ w := aQ rfl rfl hN (M6 hx hy hs hm) kk
theorem Ix [h : UK k q M] (hx : ev ρ x = .int k (a : Int)) (ha : a ≤ M) (hN : d < N) (kk : WL ro P N ops Q rest (cI ρ d (.int k (((M - a) % M : Nat) : Int))) w) :
  WL ro P N ops Q (⟨some d, .unOp .neg t x, ty, pos, af, none⟩ :: rest) ρ w := aQ rfl rfl hN (QQ hx ha) kk
theorem Ma [UK k q M] {s t : TypeId} {k' : IntKind} {sd : TypeDesc} (hs : P.underlying s = some sd) (ht : P.underlying t = some (.int k)) (hx : ev ρ x = .int k' (a : Int)) (hN : d < N) (kk : WL ro P N ops Q rest (cI ρ d (.int k ((a % M : Nat) : Int))) w) :
  WL ro P N ops Q (⟨some d, .convert s t x, ty, pos, af, none⟩ :: rest) ρ w := aQ rfl rfl hN (Lp hs ht hx) kk
theorem Cp [UK k q M] {s t : TypeId} {k' : IntKind} {sd : TypeDesc} (hs : P.underlying s = some sd) (ht : P.underlying t = some (.int k)) (hx : ev ρ x = .int k' (a : Int)) (ha : a < M) (hN : d < N) (kk : WL ro P N ops Q rest (cI ρ d (.int k (a : Int))) w) :
  WL ro P N ops Q (⟨some d, .convert s t x, ty, pos, af, none⟩ :: rest) ρ w := aQ rfl rfl hN (u4 hs ht hx ha) kk
end
section
variable {t u : TypeId} {x y : Operand} {k : IntKind} {a b : Int}
theorem K1 (hx : ev ρ x = .int k a) (hy : ev ρ y = .int k b) (hN : d < N) (kk : WL ro P N ops Q rest (cI ρ d (.bool (decide (a < b)))) w) :
  WL ro P N ops Q (⟨some d, .binOp .lss t x y u, ty, pos, af, none⟩ :: rest) ρ w := aQ rfl rfl hN (Ll hx hy) kk
theorem Lh (hx : ev ρ x = .int k a) (hy : ev ρ y = .int k b) (hN : d < N) (kk : WL ro P N ops Q rest (cI ρ d (.bool (decide (a ≤ b)))) w) :
  WL ro P N ops Q (⟨some d, .binOp .leq t x y u, ty, pos, af, none⟩ :: rest) ρ w := aQ rfl rfl hN (Ng hx hy) kk
theorem Mz (hx : ev ρ x = .int k a) (hy : ev ρ y = .int k b) (hN : d < N) (kk : WL ro P N ops Q rest (cI ρ d (.bool (decide (b < a)))) w) :
  WL ro P N ops Q (⟨some d, .binOp .gtr t x y u, ty, pos, af, none⟩ :: rest) ρ w := aQ rfl rfl hN (Ft hx hy) kk
theorem Lv (hx : ev ρ x = .int k a) (hy : ev ρ y = .int k b) (hN : d < N) (kk : WL ro P N ops Q rest (cI ρ d (.bool (decide (b ≤ a)))) w) :
  WL ro P N ops Q (⟨some d, .binOp .geq t x y u, ty, pos, af, none⟩ :: rest) ρ w := aQ rfl rfl hN (Ns hx hy) kk
theorem MW (hx : ev ρ x = .int k a) (hy : ev ρ y = .int k b) (hN : d < N) (kk : WL ro P N ops Q rest (cI ρ d (.bool (decide (a ≠ b)))) w) :
  WL ro P N ops Q (⟨some d, .binOp .neq t x y u, ty, pos, af, none⟩ :: rest) ρ w := aQ rfl rfl hN (K5 hx hy) kk
end
section
variable {t u : TypeId} {x y : Operand} {a b : Bool}
theorem DK (ht : P.underlying t = some .bool) (hx : ev ρ x = .bool a) (hy : ev ρ y = .bool b) (h : a = b) (hN : d < N) (kk : WL ro P N ops Q rest (cI ρ d (.bool true)) w) :
  WL ro P N ops Q (⟨some d, .binOp .eql t x y u, ty, pos, af, none⟩ :: rest) ρ w := aQ rfl rfl hN (Nc ht hx hy h) kk
theorem Mv (ht : P.underlying t = some .bool) (hx : ev ρ x = .bool a) (hy : ev ρ y = .bool b) (h : ¬ a = b) (hN : d < N) (kk : WL ro P N ops Q rest (cI ρ d (.bool false)) w) :
  WL ro P N ops Q (⟨some d, .binOp .eql t x y u, ty, pos, af, none⟩ :: rest) ρ w := aQ rfl rfl hN (Lf ht hx hy h) kk
theorem Eo (ht : P.underlying t = some .bool) (hx : ev ρ x = .bool a) (hy : ev ρ y = .bool b) (h : ¬ a = b) (hN : d < N) (kk : WL ro P N ops Q rest (cI ρ d (.bool true)) w) :
  WL ro P N ops Q (⟨some d, .binOp .neq t x y u, ty, pos, af, none⟩ :: rest) ρ w := aQ rfl rfl hN (Mp ht hx hy h) kk
theorem Ms (ht : P.underlying t = some .bool) (hx : ev ρ x = .bool a) (hy : ev ρ y = .bool b) (h : a = b) (hN : d < N) (kk : WL ro P N ops Q rest (cI ρ d (.bool false)) w) :
  WL ro P N ops Q (⟨some d, .binOp .neq t x y u, ty, pos, af, none⟩ :: rest) ρ w := aQ rfl rfl hN (Mh ht hx hy h) kk
end
theorem df {t e : TypeId} {x i : Operand} {ad : Addr} {n c sz k : Nat} {kk : IntKind} {m : Int} (ht : P.underlying t = some (.slice e)) (hsz : (P.info? e).map (·.size) = some sz) (hx : ev ρ x = .slice (some ad) n c) (hi : ev ρ i = .int kk m)
  (hm : m = (k : Int)) (h1 : k < n) (hN : d < N) (kk : WL ro P N ops Q rest (cI ρ d (.pointer (some (ad.add (k * sz))))) w) :
  WL ro P N ops Q (⟨some d, .indexAddr t x i, ty, pos, af, none⟩ :: rest) ρ w := aQ rfl rfl hN (ie ht hsz hx hi hm h1) kk
theorem o7 {t e : TypeId} {x i : Operand} {b o n c sz k : Nat} {kk : IntKind} {m : Int} (ht : P.underlying t = some (.slice e)) (hsz : (P.info? e).map (·.size) = some sz) (hx : ev ρ x = .slice (some ⟨b, o, none⟩) n c) (hi : ev ρ i = .int kk m)
  (hm : m = (k : Int)) (h1 : k < n) (hN : d < N) (kk : WL ro P N ops Q rest (cI ρ d (.pointer (some ⟨b, o + k * sz, none⟩))) w) :
  WL ro P N ops Q (⟨some d, .indexAddr t x i, ty, pos, af, none⟩ :: rest) ρ w := aQ rfl rfl hN (B3 ht hsz hx hi hm h1) kk
theorem CX {t e : TypeId} {x i : Operand} {ad : Addr} {n sz k : Nat} {kk : IntKind} {m : Int} (ht : P.underlying t = some (.array n e)) (hsz : (P.info? e).map (·.size) = some sz) (hx : ev ρ x = .pointer (some ad)) (hi : ev ρ i = .int kk m)
  (hm : m = (k : Int)) (h1 : k < n) (hN : d < N) (kk : WL ro P N ops Q rest (cI ρ d (.pointer (some (ad.add (k * sz))))) w) :
  WL ro P N ops Q (⟨some d, .indexAddr t x i, ty, pos, af, none⟩ :: rest) ρ w := aQ rfl rfl hN (Ce ht hsz hx hi hm h1) kk
theorem pK {t e : TypeId} {x hi : Operand} {A : Option Addr} {n c h sz : Nat} {k : IntKind} {m : Int} (ht : P.underlying t = some (.slice e)) (hsz : (P.info? e).map (·.size) = some sz) (hx : ev ρ x = .slice A n c) (hhi : ev ρ hi = .int k m)
  (hm : m = (h : Int)) (h2 : h ≤ c) (hN : d < N) (kk : WL ro P N ops Q rest (cI ρ d (.slice A h c)) w) :
  WL ro P N ops Q (⟨some d, .slice t x none (some hi) none, ty, pos, af, none⟩ :: rest) ρ w := aQ rfl rfl hN (Az ht hsz hx hhi hm h2) kk
theorem Dt {t e : TypeId} {x lo : Operand} {b o n c l sz : Nat} {k : IntKind} {m : Int} (ht : P.underlying t = some (.slice e)) (hsz : (P.info? e).map (·.size) = some sz) (hx : ev ρ x = .slice (some ⟨b, o, none⟩) n c) (hlo : ev ρ lo = .int k m)
  (hm : m = (l : Int)) (h1 : l ≤ n) (h2 : n ≤ c) (h3 : l < c) (hN : d < N) (kk : WL ro P N ops Q rest (cI ρ d (.slice (some ⟨b, o + l * sz, none⟩) (n - l) (c - l))) w) :
  WL ro P N ops Q (⟨some d, .slice t x (some lo) none none, ty, pos, af, none⟩ :: rest) ρ w := aQ rfl rfl hN (Db ht hsz hx hlo hm h1 h2 h3) kk
theorem z5 {t e : TypeId} {x lo : Operand} {ad : Addr} {n c l sz : Nat} {k : IntKind} {m : Int} (ht : P.underlying t = some (.slice e)) (hsz : (P.info? e).map (·.size) = some sz) (hx : ev ρ x = .slice (some ad) n c) (hlo : ev ρ lo = .int k m)
  (hm : m = (l : Int)) (h1 : l ≤ n) (h2 : n ≤ c) (h3 : l < c) (hN : d < N) (kk : WL ro P N ops Q rest (cI ρ d (.slice (some (ad.add (l * sz))) (n - l) (c - l))) w) :
  WL ro P N ops Q (⟨some d, .slice t x (some lo) none none, ty, pos, af, none⟩ :: rest) ρ w := aQ rfl rfl hN (BB ht hsz hx hlo hm h1 h2 h3) kk
theorem aW : xf ρ [] = [] := rfl
theorem aw {x : Operand} {l : List Operand} {v : Value} {r : List Value} (hx : ev ρ x = v) (h : xf ρ l = r) : xf ρ (x :: l) = v :: r := by simp only [xf, hx, h]
theorem bZ : xn ρ [] = [] := rfl
theorem aN {i : Nat} {x : Operand} {l : List (Nat × Operand)} {v : Value} {r : List (Nat × Value)} (hx : ev ρ x = v) (h : xn ρ l = r) : xn ρ ((i, x) :: l) = (i, v) :: r := by simp only [xn, hx, h]
def CH (P : Program) (f : FuncId) : Bool := match P.funcs[f]? with | some fn => !fn.body.isNone && !(fn.name == "runtime.NumGoroutine") | none => false
theorem xv {P : Program} {f : FuncId} (h : CH P f = true) : ∃ fn, P.funcs[f]? = some fn ∧ fn.body.isNone = false ∧ (fn.name == "runtime.NumGoroutine") = false := by
 unfold CH at h;split at h
 ·rename_i fn hf;simp only [UX, X3] at h;exact ⟨fn, hf, h.1, h.2⟩
 ·cases h
theorem aK {dd : Option Nat} {g : Option (Nat × Bool)} {f : FuncId} {args : Array Operand} {ts : Array TypeId} {vs : List Value} (hf : CH P f = true) (ha : xf ρ args.toList = vs) :
  (execOp (ev ρ) ⟨dd, .call ⟨.value (.func f), args, ts⟩, ty, pos, af, g⟩).run P w = .ok (.enter f vs.toArray) w := by
 obtain ⟨fn, h1, h2, h3⟩ := xv hf;have := Jy (P := P) (w := w) (d := dd) (ty := ty) (pos := pos) (af := af) (g := g) (ts := ts) h1 h2 h3 (show ev ρ (.func f) = .func (.func f) #[] #[] from rfl) (nB args ha);simpa using this
theorem Hh {dd : Option Nat} {g : Option (Nat × Bool)} {x : Operand} {f : FuncId} {args : Array Operand} {ts : Array TypeId} {first cap vs : List Value} (hf : CH P f = true) (hx : ev ρ x = .func (.func f) first.toArray cap.toArray) (ha : first ++ (xf ρ args.toList ++ cap) = vs) :
  (execOp (ev ρ) ⟨dd, .call ⟨.value x, args, ts⟩, ty, pos, af, g⟩).run P w = .ok (.enter f vs.toArray) w := by
 obtain ⟨fn, h1, h2, h3⟩ := xv hf;have := Jy (P := P) (w := w) (d := dd) (ty := ty) (pos := pos) (af := af) (g := g) (ts := ts) h1 h2 h3 hx (nB args rfl);subst ha;simpa using this
theorem aF {f : FuncId} {args : Array Operand} {ts : Array TypeId} {vs : List Value} {R : Ending → World → Prop} (hc : Calls P f vs.toArray w R) (hf : CH P f = true) (ha : xf ρ args.toList = vs) (hN : d < N)
  (kk : ∀ e w', R e w' → ∃ v, e = .returned v ∧ WL ro P N ops Q rest (cI ρ d v) w') : WL ro P N ops Q (⟨some d, .call ⟨.value (.func f), args, ts⟩, ty, pos, af, none⟩ :: rest) ρ w :=
 z7 rfl rfl hN (aK hf ha) hc kk
theorem gy {x : Operand} {f : FuncId} {args : Array Operand} {ts : Array TypeId} {first cap vs : List Value} {R : Ending → World → Prop} (hc : Calls P f vs.toArray w R) (hf : CH P f = true) (hx : ev ρ x = .func (.func f) first.toArray cap.toArray) (ha : first ++ (xf ρ args.toList ++ cap) = vs) (hN : d < N)
  (kk : ∀ e w', R e w' → ∃ v, e = .returned v ∧ WL ro P N ops Q rest (cI ρ d v) w') : WL ro P N ops Q (⟨some d, .call ⟨.value x, args, ts⟩, ty, pos, af, none⟩ :: rest) ρ w :=
 z7 rfl rfl hN (Hh hf hx ha) hc kk
end
end
end Go.Proofs.YteeckcbbnegmcaaGreatDoor
