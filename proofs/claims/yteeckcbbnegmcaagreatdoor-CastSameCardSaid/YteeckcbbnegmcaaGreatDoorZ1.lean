/- Lemmas for castSame, part 1. -/
import Derived.KernelRfl
import Derived.Test.YteeckcbbnegmcaaGreatDoorRows
import Derived.WalkKit
import Derived.ProofKit
import Derived.OpenShut
import Derived.Carry
import Derived.WalkLawsBesides
import Derived.Below
import Derived.Laws.OwnMore
import Derived.Laws.Rows
import Derived.RegionTactic
import Derived.ControlIn
import Derived.TacticsIn
import Derived.AtR
import Derived.Deep.AppendLies
import Derived.Maps.AppendAt
import Derived.OwnWalk
import Derived.Test.YteeckcbbnegmcaaGreatDoorProg
namespace Go.Proofs.YteeckcbbnegmcaaGreatDoor
open Go.ChangeShapes Go.WideShapes Go.ChangeAt Go.RowKit
theorem Si : type_of% @if_neg := @if_neg
theorem Sj : type_of% @if_pos := @if_pos
theorem Sk : type_of% @List.Sublist.cons_cons := @List.Sublist.cons_cons
theorem Sm : type_of% @List.Sublist.cons := @List.Sublist.cons
theorem Sn : type_of% @Nat.zero_le := @Nat.zero_le
theorem So : type_of% @Nat.le_refl := @Nat.le_refl
theorem Sp : type_of% @List.mem_of_getElem? := @List.mem_of_getElem?
theorem Sq : type_of% @List.mem_cons_self := @List.mem_cons_self
theorem Sr : type_of% @List.length_append := @List.length_append
theorem Ss : type_of% @List.nil_append := @List.nil_append
theorem St : type_of% @List.getElem?_map := @List.getElem?_map
theorem Su : type_of% @List.take_of_length_le := @List.take_of_length_le
theorem Sv : type_of% @List.cons_append := @List.cons_append
theorem Sw : type_of% @List.getElem?_eq_none := @List.getElem?_eq_none
theorem Sx : type_of% @List.length_map := @List.length_map
theorem Sy : type_of% @List.set_cons_zero := @List.set_cons_zero
theorem SA : type_of% @List.mem_cons_of_mem := @List.mem_cons_of_mem
theorem SB : type_of% @List.mem_map := @List.mem_map
theorem SC : type_of% @List.getElem?_eq_some_iff := @List.getElem?_eq_some_iff
theorem SD : type_of% @List.Sublist.slnil := @List.Sublist.slnil
theorem SE : type_of% @Bool.and_eq_true := @Bool.and_eq_true
theorem SF : type_of% @decide_eq_true := @decide_eq_true
theorem SG : type_of% @List.length_cons := @List.length_cons
theorem SH : type_of% @List.mem_cons := @List.mem_cons
theorem SI : type_of% @Nat.mul_one := @Nat.mul_one
theorem SJ : type_of% @decide_eq_true_eq := @decide_eq_true_eq
theorem SK : type_of% @Nat.le_trans := @Nat.le_trans
theorem SL : type_of% @Nat.pow_add := @Nat.pow_add
theorem SM : type_of% @Nat.zero_add := @Nat.zero_add
theorem SN : type_of% @List.mem_singleton := @List.mem_singleton
theorem SO : type_of% @Nat.mod_lt := @Nat.mod_lt
theorem SP : type_of% @List.length_take := @List.length_take
theorem SQ : type_of% @decide_eq_false := @decide_eq_false
theorem SS : type_of% @Nat.mul_comm := @Nat.mul_comm
theorem SU : type_of% @List.all_eq_true := @List.all_eq_true
theorem SV : type_of% @Nat.pow_pos := @Nat.pow_pos
theorem SW : type_of% @List.map_cons := @List.map_cons
theorem SX : type_of% @Nat.mul_le_mul_left := @Nat.mul_le_mul_left
theorem SY : type_of% @Nat.mod_eq_of_lt := @Nat.mod_eq_of_lt
theorem SZ : type_of% @List.length_reverse := @List.length_reverse
theorem S0 : type_of% @List.ext_getElem? := @List.ext_getElem?
theorem S1 : type_of% @List.mem_range := @List.mem_range
theorem S2 : type_of% @List.mem_append := @List.mem_append
theorem S3 : type_of% @List.append_nil := @List.append_nil
theorem S4 : type_of% @Nat.pow_le_pow_right := @Nat.pow_le_pow_right
theorem S5 : type_of% @List.append_assoc := @List.append_assoc
theorem S6 : type_of% @Nat.lt_or_ge := @Nat.lt_or_ge
theorem S7 : type_of% @Nat.pow_mul := @Nat.pow_mul
theorem S8 : type_of% @List.getElem?_range := @List.getElem?_range
theorem S9 : type_of% @Nat.mul_le_mul_right := @Nat.mul_le_mul_right
theorem Ta : type_of% @Nat.pow_succ := @Nat.pow_succ
theorem Tb : type_of% @List.set_cons_succ := @List.set_cons_succ
theorem Tc : type_of% @Option.some.inj := @Option.some.inj
theorem Td : type_of% @Nat.sub_self := @Nat.sub_self
theorem Te : type_of% @Nat.mul_add := @Nat.mul_add
theorem Tf : type_of% @Bool.false_or := @Bool.false_or
theorem Tg : type_of% @Nat.lt_of_lt_of_le := @Nat.lt_of_lt_of_le
theorem Th : type_of% @List.sublist_cons_self := @List.sublist_cons_self
theorem Ti : type_of% @Nat.mul_assoc := @Nat.mul_assoc
theorem Tj : type_of% @Nat.div_eq_of_lt := @Nat.div_eq_of_lt
theorem Tk : type_of% @Nat.lt_of_le_of_lt := @Nat.lt_of_le_of_lt
theorem Tl : type_of% @Nat.succ_mul := @Nat.succ_mul
theorem Tm : type_of% @congrArg := @congrArg
theorem Tn : type_of% @Array.getD_eq_getD_getElem? := @Array.getD_eq_getD_getElem?
theorem To : type_of% @List.take_append_drop := @List.take_append_drop
theorem Tp : type_of% @Nat.min_eq_left := @Nat.min_eq_left
theorem Tq : type_of% @List.mem_filterMap := @List.mem_filterMap
theorem Tr : type_of% @List.perm_middle := @List.perm_middle
theorem Ts : type_of% @List.getElem?_eq_getElem := @List.getElem?_eq_getElem
theorem Tt : type_of% @List.map_append := @List.map_append
theorem Tu : type_of% @List.getElem?_append_right := @List.getElem?_append_right
theorem Tv : type_of% @Int.natCast_mul := @Int.natCast_mul
theorem Tw : type_of% @Nat.mul_le_mul := @Nat.mul_le_mul
theorem Tx : type_of% @List.map_nil := @List.map_nil
theorem Ty : type_of% @List.map_map := @List.map_map
theorem Tz : type_of% @List.getElem?_set := @List.getElem?_set
theorem TA : type_of% @List.any_eq_false := @List.any_eq_false
theorem TB : type_of% @Nat.add_zero := @Nat.add_zero
theorem TC : type_of% @List.getD_eq_getElem?_getD := @List.getD_eq_getElem?_getD
theorem TD : type_of% @List.mem_filter := @List.mem_filter
theorem TE : type_of% @Nat.add_mul_div_left := @Nat.add_mul_div_left
theorem TF : type_of% @List.pairwise_cons := @List.pairwise_cons
theorem TG : type_of% @List.mem_append_right := @List.mem_append_right
theorem TH : type_of% @Option.map_eq_some_iff := @Option.map_eq_some_iff
theorem TI : type_of% @List.getElem?_reverse := @List.getElem?_reverse
theorem TJ : type_of% @List.Sublist.refl := @List.Sublist.refl
theorem TK : type_of% @Nat.le_of_ble_eq_true := @Nat.le_of_ble_eq_true
theorem TL : type_of% @List.length_set := @List.length_set
theorem TM : type_of% @Option.getD_some := @Option.getD_some
theorem TN : type_of% @List.nil_sublist := @List.nil_sublist
theorem TO : type_of% @Nat.div_lt_iff_lt_mul := @Nat.div_lt_iff_lt_mul
theorem TP : type_of% @List.length_replicate := @List.length_replicate
theorem TQ : type_of% @Int.sign_eq_neg_one_of_neg := @Int.sign_eq_neg_one_of_neg
theorem TT : type_of% @List.length_drop := @List.length_drop
theorem TU : type_of% @Int.sign_eq_one_of_pos := @Int.sign_eq_one_of_pos
theorem TV : type_of% @List.mem_iff_getElem? := @List.mem_iff_getElem?
theorem TW : type_of% @List.eq_nil_of_length_eq_zero := @List.eq_nil_of_length_eq_zero
theorem TX : type_of% @Int.natCast_add := @Int.natCast_add
theorem TY : type_of% @Nat.div_add_mod := @Nat.div_add_mod
theorem TZ : type_of% @Nat.mul_succ := @Nat.mul_succ
theorem T0 : type_of% @beq_iff_eq := @beq_iff_eq
theorem T1 : type_of% @Classical.byContradiction := @Classical.byContradiction
theorem T2 : type_of% @Nat.div_div_eq_div_mul := @Nat.div_div_eq_div_mul
theorem T3 : type_of% @Option.some.injEq := @Option.some.injEq
theorem T4 : type_of% @List.drop_eq_getElem_cons := @List.drop_eq_getElem_cons
theorem T5 : type_of% @Option.map_some := @Option.map_some
theorem T6 : type_of% @Nat.one_mul := @Nat.one_mul
theorem T7 : type_of% @Int.toNat_natCast := @Int.toNat_natCast
theorem T8 : type_of% @Nat.eq_zero_or_pos := @Nat.eq_zero_or_pos
theorem T9 : type_of% @Nat.add_mul_mod_self_left := @Nat.add_mul_mod_self_left
theorem Ua : type_of% @List.map_set := @List.map_set
theorem Ub : type_of% @List.any_eq_true := @List.any_eq_true
theorem Uc : type_of% @List.mem_of_mem_take := @List.mem_of_mem_take
theorem Ud : type_of% @Int.natAbs_mul := @Int.natAbs_mul
theorem Ue : type_of% @List.reverse_cons := @List.reverse_cons
theorem Uf : type_of% @List.drop_of_length_le := @List.drop_of_length_le
theorem Ug : type_of% @of_decide_eq_true := @of_decide_eq_true
theorem Uh : type_of% @List.mem_append_left := @List.mem_append_left
theorem Ui : type_of% @List.mem_reverse := @List.mem_reverse
theorem Uj : type_of% @Nat.add_comm := @Nat.add_comm
theorem Uk : type_of% @List.nodup_cons := @List.nodup_cons
theorem Ul : type_of% @List.getElem?_take := @List.getElem?_take
theorem Um : type_of% @List.map_congr_left := @List.map_congr_left
theorem Un : type_of% @List.set_append_right := @List.set_append_right
theorem Uo : type_of% @List.getElem?_drop := @List.getElem?_drop
theorem Up : type_of% @Nat.add_mul := @Nat.add_mul
theorem Uq : type_of% @Bool.and_eq_true_iff := @Bool.and_eq_true_iff
theorem Ur : type_of% @Dyadic.zero_add := @Dyadic.zero_add
theorem Us : type_of% @Option.bind_some := @Option.bind_some
theorem Ut : type_of% @Array.getElem?_eq_getElem := @Array.getElem?_eq_getElem
theorem Uu : type_of% @Bool.or_eq_true := @Bool.or_eq_true
theorem Uv : type_of% @List.range_succ := @List.range_succ
theorem Uw : type_of% @List.mem_flatMap := @List.mem_flatMap
theorem Ux : type_of% @List.filterMap_cons := @List.filterMap_cons
theorem Uy : type_of% @Classical.not_not := @Classical.not_not
theorem Uz : type_of% @Dyadic.one_mul := @Dyadic.one_mul
theorem UA : type_of% @List.getElem?_toArray := @List.getElem?_toArray
theorem UB : type_of% @Nat.div_le_self := @Nat.div_le_self
theorem UC : type_of% @List.replicate_succ := @List.replicate_succ
theorem UD : type_of% @Nat.mod_add_div := @Nat.mod_add_div
theorem UE : type_of% @Nat.zero_mul := @Nat.zero_mul
theorem UF : type_of% @List.take_zero := @List.take_zero
theorem UG : type_of% @List.length_eq_zero_iff := @List.length_eq_zero_iff
theorem UH : type_of% @Dyadic.add_zero := @Dyadic.add_zero
theorem UI : type_of% @List.foldl_append := @List.foldl_append
theorem UJ : type_of% @Int.natAbs_pow := @Int.natAbs_pow
theorem UL : type_of% @Dyadic.pow_zero := @Dyadic.pow_zero
theorem UM : type_of% @List.getElem?_append_left := @List.getElem?_append_left
theorem UN : type_of% @List.map_drop := @List.map_drop
theorem UO : type_of% @List.map_singleton := @List.map_singleton
theorem UP : type_of% @Nat.pow_zero := @Nat.pow_zero
theorem UQ : type_of% @List.any_cons := @List.any_cons
theorem UR : type_of% @List.getElem?_cons_succ := @List.getElem?_cons_succ
theorem US : type_of% @List.size_toArray := @List.size_toArray
theorem UT : type_of% @Nat.mul_lt_mul_of_pos_right := @Nat.mul_lt_mul_of_pos_right
theorem UU : type_of% @List.length_range := @List.length_range
theorem UW : type_of% @List.getElem?_mapIdx := @List.getElem?_mapIdx
theorem UX : type_of% @List.getElem?_cons_zero := @List.getElem?_cons_zero
theorem UY : type_of% @List.map_id' := @List.map_id'
theorem UZ : type_of% @Nat.le_mul_of_pos_left := @Nat.le_mul_of_pos_left
theorem U0 : type_of% @List.reverse_reverse := @List.reverse_reverse
theorem U1 : type_of% @Int.lt_trichotomy := @Int.lt_trichotomy
theorem U2 : type_of% @UInt8.toNat_inj := @UInt8.toNat_inj
theorem U3 : type_of% @List.length_nil := @List.length_nil
theorem U4 : type_of% @Dyadic.mul_zero := @Dyadic.mul_zero
theorem U5 : type_of% @Array.getElem?_eq_none := @Array.getElem?_eq_none
theorem U6 : type_of% @Nat.lt_of_not_le := @Nat.lt_of_not_le
theorem U7 : type_of% @Nat.add_assoc := @Nat.add_assoc
theorem U8 : type_of% @Bool.eq_false_iff := @Bool.eq_false_iff
theorem U9 : type_of% @List.drop_drop := @List.drop_drop
theorem Va : type_of% @List.any_nil := @List.any_nil
theorem Vb : type_of% @Int.tdiv_eq_ediv_of_nonneg := @Int.tdiv_eq_ediv_of_nonneg
theorem Vd : type_of% @Bool.false_eq_true := @Bool.false_eq_true
theorem Ve : type_of% @List.any_append := @List.any_append
theorem Vf : type_of% @List.flatMap_append := @List.flatMap_append
theorem Vg : type_of% @List.replicate_zero := @List.replicate_zero
theorem Vh : type_of% @List.Pairwise.nil := @List.Pairwise.nil
theorem Vi : type_of% @Int.eq_ofNat_of_zero_le := @Int.eq_ofNat_of_zero_le
theorem Vj : type_of% @List.length_finRange := @List.length_finRange
theorem Vk : type_of% @List.reverse_append := @List.reverse_append
theorem Vl : type_of% @List.take_length := @List.take_length
theorem Vm : type_of% @List.not_mem_nil := @List.not_mem_nil
theorem Vn : type_of% @Nat.mul_left_comm := @Nat.mul_left_comm
theorem Vo : type_of% @Dyadic.zero_mul := @Dyadic.zero_mul
theorem Vp : type_of% @List.filter_append := @List.filter_append
theorem Vq : type_of% @List.foldl_cons := @List.foldl_cons
theorem Vr : type_of% @Bool.not_eq_true' := @Bool.not_eq_true'
theorem Vs : type_of% @List.set_eq_take_append_cons_drop := @List.set_eq_take_append_cons_drop
theorem Vt : type_of% @Array.all_eq_true' := @Array.all_eq_true'
theorem Vu : type_of% @List.sublist_append_left := @List.sublist_append_left
theorem Vv : type_of% @decide_eq_false_iff_not := @decide_eq_false_iff_not
theorem Vw : type_of% @Nat.pow_lt_pow_iff_right := @Nat.pow_lt_pow_iff_right
theorem Vx : type_of% @Nat.le_mul_of_pos_right := @Nat.le_mul_of_pos_right
theorem Vy : type_of% @Array.getElem?_eq_some_iff := @Array.getElem?_eq_some_iff
theorem Vz : type_of% @List.getElem?_eq_none_iff := @List.getElem?_eq_none_iff
theorem VA : type_of% @List.mem_of_mem_drop := @List.mem_of_mem_drop
theorem VB : type_of% @List.pairwise_singleton := @List.pairwise_singleton
theorem VC : type_of% @List.filterMap_append := @List.filterMap_append
theorem VD : type_of% @Int.natAbs_ediv_le_natAbs := @Int.natAbs_ediv_le_natAbs
theorem VE : type_of% @List.mem_or_eq_of_mem_set := @List.mem_or_eq_of_mem_set
def zL0 : List (List (Nat × Option Nat)) := [[(4, none)], [(21, some 0)], [(1, none)], [(23, some 2)], [(22, some 1), (24, some 3)], [(25, some 4)], [(26, some 5)], [(4, none), (27, some 6)], [(28, some 7), (27, some 6)], [(29, some 8), (27, some 6)], [(30, some 9), (27, some 6)], [(27, some 6), (31, some 10)], [(32, some 11)], [(4, none), (33, some 12)], [(34, some 13), (33, some 12)], [(35, some 14), (33, some 12)], [(4, none), (33, some 12)], [(37, some 16), (33, some 12)], [(36, some 15), (38, some 17), (33, some 12)], [(33, some 12), (39, some 18)], [(40, some 19)], [(3, none), (41, some 20)], [(42, some 21), (41, some 20)], [(43, some 22), (41, some 20)], [(1, none), (44, some 23)], [(45, some 24), (44, some 23)], [(3, none), (44, some 23)], [(47, some 26), (44, some 23)], [(46, some 25), (48, some 27), (44, some 23)], [(49, some 28), (44, some 23)], [(50, some 29), (44, some 23)], [(4, none), (44, some 23)], [(52, some 31), (44, some 23)]]
def zL1 : List Nat := [0, 1, 0, 4, 15, 31, 63, 127, 255, 511, 1023, 2047, 4095, 8191, 16383, 32767, 8191, 73727, 262143, 524287, 1048575, 2097151, 4194303, 8388607, 16777215, 33554431, 16777215, 83886079, 268435455, 536870911, 1073741823, 16777215, 2164260863, 8589934591, 17179869183, 34359738367]
def zL2 : List Nat := [14, 53, 54, 55, 56, 57, 58, 59, 60, 61, 62, 63, 64, 65, 66, 67, 68, 69]
theorem Sd {p : Prop} (h : p := by omega) : p := h
theorem Se {p : Prop} (h : p := by decide) : p := h
theorem Sf {p : Prop} (h : p := by kernel_rfl) : p := h
theorem G8 {P Q : Prop} (p : P) (h : P → Q := by intro k; exact Ba (b := 4294967295) rfl rfl (by first | assumption | omega) (by first | assumption | omega) Se k) : Q := h p
theorem u1 {P Q : Prop} (p : P) (h : P → Q := by intro k; exact lg (s := 32) (m := 4294967296) rfl rfl Se Se Se k) : Q := h p
theorem Cc {P Q : Prop} (p : P) (h : P → Q := by intro k; exact lg (s := 8) (m := 256) rfl rfl Se Se Se k) : Q := h p
theorem lR {P Q : Prop} (p : P) (h : P → Q := by intro k; exact Bu bq.out bq.out rfl (by first | assumption | omega) Se k) : Q := h p
theorem CH {P Q : Prop} (p : P) (h : P → Q := by intro k; exact ee (aa (cF (aq (ai (sr (mI (mI k)))))))) : Q := h p
theorem yG {P Q : Prop} (p : P) (h : P → Q := by intro k; exact Ao bq.out bq.out rfl Sd Sd Se k) : Q := h p
theorem kP {P Q : Prop} (p : P) (h : P → Q := by intro k; exact kg Se rfl rfl Se k) : Q := h p
theorem oL {P Q : Prop} (p : P) (h : P → Q := by intro k; exact db (k := j) bq.out aP.size rfl rfl Sd Sd Se k) : Q := h p
theorem iy {P Q : Prop} (p : P) (h : P → Q := by intro k; exact cv aP.out rfl ((hr.ext hh.below).DB (by assumption)) Se k) : Q := h p
theorem kT {P Q : Prop} (p : P) (h : P → Q := by intro k; exact Nv rfl rfl Sd Sd Sd Se k) : Q := h p
theorem BL {P Q : Prop} (p : P) (h : P → Q := by intro k; exact Po rfl rfl (by first | assumption | omega) (by first | assumption | omega) Se k) : Q := h p
theorem Gu {P Q : Prop} (p : P) (h : P → Q := by intro k; exact bY hh (i := 0) (vs := [_]) rfl rfl (cJ rfl) rfl aP.out rfl (by rw [aT, aJ]; omega) rfl k) : Q := h p
theorem fG {P Q : Prop} (p : P) (h : P → Q := by intro k; exact az (bg (ai (al k)))) : Q := h p
theorem oV {P Q : Prop} (p : P) (h : P → Q := by intro k; exact a6 (aa (ah (cF (aV (aE (aE (bo (ai (sr (mL k))))))))))) : Q := h p
theorem Cl {P Q : Prop} (p : P) (h : P → Q := by intro k; exact cH (aa (cT (sr (aI (aa (au (aG k)))))))) : Q := h p
theorem qY {P Q : Prop} (p : P) (h : P → Q := by intro k; exact Mk rfl rfl Sd Sd Se k) : Q := h p
theorem FM {P Q : Prop} (p : P) (h : P → Q := by intro k; exact ee (aa (cT (aq (ai (ah (ao (ao (ah k))))))))) : Q := h p
theorem HY {P Q : Prop} (p : P) (h : P → Q := by intro k; exact aU 8 [[(0, none)], [(5, none)], [(28, some 0), (29, some 1)], [(30, some 2)], [(1, none)], [(5, none)], [(32, some 4), (33, some 5)], [(34, some 6)]] [(7, 35), (6, 34), (5, 33), (4, 32), (3, 31), (2, 30), (1, 29), (0, 28)] hh mixed Sf k) : Q := h p
theorem xz {P Q : Prop} (p : P) (h : P → Q := by intro k; exact wJ (fun _ hj => (hr.ext hj.hp.below).DB hx3) k) : Q := h p
theorem yg {P Q : Prop} (p : P) (h : P → Q := by intro k; exact wJ (fun _ hj => (hs.ext hj.hp.below).DB hy3) k) : Q := h p
theorem Ge {P Q : Prop} (p : P) (h : P → Q := by intro k; exact aX (bp (ae v35 (ae v34 (ae v33 (ae v32 (ae v31 (ae v30 (ae v29 (ae v28 aW))))))))) k) : Q := h p
theorem LU {P Q : Prop} (p : P) (h : P → Q := by intro k; exact aU 8 [[(0, none)], [(5, none)], [(38, some 0), (39, some 1)], [(40, some 2)], [(1, none)], [(5, none)], [(42, some 4), (43, some 5)], [(44, some 6)]] [(7, 45), (6, 44), (5, 43), (4, 42), (3, 41), (2, 40), (1, 39), (0, 38)] hh mixed Sf k) : Q := h p
theorem Lv {P Q : Prop} (p : P) (h : P → Q := by intro k; exact aX (bp (ae v45 (ae v44 (ae v43 (ae v42 (ae v41 (ae v40 (ae v39 (ae v38 aW))))))))) k) : Q := h p
theorem vn {P Q : Prop} (p : P) (h : P → Q := by intro k; exact a6 (aa (ah (cT (aq (ai (ah (ao (sr (mI (aI (aa (sr (aI (aa (ah (sr (mI (mL (aK k)))))))))))))))))))) : Q := h p
theorem F3 {P Q : Prop} (p : P) (h : P → Q := by intro k; exact db (k := done.length) bq.out aP.size rfl rfl Sd Sd Se k) : Q := h p
theorem jR {P Q : Prop} (p : P) (h : P → Q := by intro k; exact cv aP.out rfl (hh.gk (i := 0) rfl (by first | assumption | (simp only [SI]; assumption))) Se k) : Q := h p
theorem np {P Q : Prop} (p : P) (h : P → Q := by intro k; exact nK (k := done.length) bq.out aP.size rfl rfl Sd Sd Se k) : Q := h p
theorem uI {P Q : Prop} (p : P) (h : P → Q := by intro k; exact bY hh (i := 0) (vs := [_]) rfl rfl (cJ rfl) rfl aP.out rfl (by rw [aT]; simp only [Sr, SG]; omega) rfl k) : Q := h p
theorem uK {P Q : Prop} (p : P) (h : P → Q := by intro k; exact aI (az (bg (ai (al k))))) : Q := h p
theorem pj {P Q : Prop} (p : P) (h : P → Q := by intro k; exact aL (aa (ah (sr (mL (aK (mI (aa (ao k))))))))) : Q := h p
theorem fj {P Q : Prop} (p : P) (h : P → Q := by intro k; exact a6 (aa (ah (cT (aq (ai (ah (ao (sr (mI k)))))))))) : Q := h p
theorem gj {P Q : Prop} (p : P) (h : P → Q := by intro k; exact cG (k := i) bq.out aP.size rfl rfl Sd Sd Se k) : Q := h p
theorem qI {P Q : Prop} (p : P) (h : P → Q := by intro k; exact dr hh (cs := [_]) bq.out aP.out (bC (cJ rfl) dF) rfl rfl Se Se Se rfl Se k) : Q := h p
theorem qH {P Q : Prop} (p : P) (h : P → Q := by intro k; exact aC (nL a _ ha) ak.out rfl Se k) : Q := h p
theorem Dp {P Q : Prop} (p : P) (h : P → Q := by intro k; exact aC (nL b _ hb) ak.out rfl Se k) : Q := h p
theorem Ga {P Q : Prop} (p : P) (h : P → Q := by intro k; exact br hh (Az _ _ _ _ _ _ (aQ 18446744073709551616 (bN a)) (aQ 18446744073709551616 (bN b)) _ (hh.aD (i := 1) rfl) (hh.aD (i := 0) rfl) (jj _) (jj _) (hh.fI (i := 1) rfl) (hh.fI (i := 0) rfl) Sd Sd) rfl k) : Q := h p
theorem Cx {P Q : Prop} (p : P) (h : P → Q := by intro k; exact a6 (aa (ah (cF (aV (aE (aE (bo (ai (sr (aI (aa (au k))))))))))))) : Q := h p
theorem dq {P Q : Prop} (p : P) (h : P → Q := by intro k; exact a6 (aa (ah (cT (aq (ai (ah (ao (sr k))))))))) : Q := h p
theorem na {P Q : Prop} (p : P) (h : P → Q := by intro k; exact aL (az (bg (ai (al k))))) : Q := h p
theorem jN {P Q : Prop} (p : P) (h : P → Q := by intro k; exact qM bq.out rfl rfl Sd (by assumption) Se k) : Q := h p
theorem o7 {P Q : Prop} (p : P) (h : P → Q := by intro k; exact II (dy rfl (dz (vs := [_, _]) aP.out (hh.bH (i := 0) (n := 2) rfl rfl) rfl) fq) k) : Q := h p
theorem Gh {P Q : Prop} (p : P) (h : P → Q := by intro k; exact aj (N := 13) (l := [.agg #[.bool s, .string m]]) Tryz.func195 rfl rfl (by simp) k) : Q := h p
theorem Cr {P Q : Prop} (p : P) (h : P → Q := by intro k; exact aB (aa (cT (sr (aI (aa (au (bQ (aG k))))))))) : Q := h p
theorem BQ {P Q : Prop} (p : P) (h : P → Q := by intro k; exact KF bq.out rfl rfl (by first | rfl | assumption | decide) Se k) : Q := h p
theorem C1 {P Q : Prop} (p : P) (h : P → Q := by intro k; exact aa (cF (aq (ai (ah (sr (bF k))))))) : Q := h p
theorem LV {P Q : Prop} (p : P) (h : P → Q := by intro k; exact aX (bp (ae v14 (ae v13 (ae v12 (ae v11 (ae v10 (ae v9 (ae v8 (ae v7 (ae v6 (ae v5 aW))))))))))) k) : Q := h p
theorem u6 {P Q : Prop} (p : P) (h : P → Q := by intro k; exact aa (ah (sr (mL (aK (mI (aa (ao k)))))))) : Q := h p
theorem bX {P Q : Prop} (p : P) (h : P → Q := by intro k; exact db (k := i) bq.out aP.size rfl rfl Sd Sd Se k) : Q := h p
theorem mq {P Q : Prop} (p : P) (h : P → Q := by intro k; exact a6 (aa (ah (cF (aV (aE (aE (bo (ai (sr k)))))))))) : Q := h p
theorem Ix {P Q : Prop} (p : P) (h : P → Q := by intro k; exact dr hh (cs := [_, _, _, _]) bq.out aP.out (bC (iq rfl) (bC (iq rfl) dF)) rfl rfl Se Se Se rfl Se k) : Q := h p
theorem B5 {P Q : Prop} (p : P) (h : P → Q := by intro k; exact aU 10 [[(2, none)], [(18, some 0)], [(1, none)], [(20, some 2)], [(19, some 1), (21, some 3)], [(2, none)], [(23, some 5)], [(22, some 4), (24, some 6)], [(25, some 7)], []] [(9, 5), (8, 26), (7, 25), (6, 24), (5, 23), (4, 22), (3, 21), (2, 20), (1, 19), (0, 18)] hh mixed Sf k) : Q := h p
theorem Cp {P Q : Prop} (p : P) (h : P → Q := by intro k; exact bB (i := 3) (fun ρ1 w1 hj hR => Gy (show ρ1 20 = Value.int _ _ from hR.1) Sd Sd) k) : Q := h p
theorem Dc {P Q : Prop} (p : P) (h : P → Q := by intro k; exact a8 (i := 9) (di _ 63 _) di.ext (fun ρ1 w1 hj hR => jU aP.out hj.bl (fun v w2 h hb => ⟨hb, h⟩)) k) : Q := h p
theorem CC {P Q : Prop} (p : P) (h : P → Q := by intro k; exact aX (bp (ae e5 (ae v26 (ae v25 (ae v24 (ae v23 (ae v22 (ae v21 (ae v20 (ae v19 (ae v18 aW))))))))))) k) : Q := h p
theorem Hx {P Q : Prop} (p : P) (h : P → Q := by intro k; exact aj (N := 47) (l := [.agg #[.bool true, .string a], .int .i64 (-(m : Int))]) Tryz.func197 rfl rfl (by simp) k) : Q := h p
theorem qX {P Q : Prop} (p : P) (h : P → Q := by intro k; exact aa (cF (aq (ai (sr k))))) : Q := h p
theorem FP {P Q : Prop} (p : P) (h : P → Q := by intro k; exact aj (N := 41) (l := [.agg #[.bool a.neg, .string a.bf, .int .i64 a.e], .agg #[.bool b.neg, .string b.bf, .int .i64 b.e]]) Tryz.func136 rfl rfl (by simp) k) : Q := h p
theorem IE {P Q : Prop} (p : P) (h : P → Q := by intro k; exact aU 3 [[(2, none)], [(7, some 0)], [(3, none)]] [(2, 9), (1, 8), (0, 7)] hh mixed Sf k) : Q := h p
theorem Iw {P Q : Prop} (p : P) (h : P → Q := by intro k; exact dC (fun _ hj => ew a _ (hT.hp hj.hp) Sd Sd Sd) k) : Q := h p
theorem Lb {P Q : Prop} (p : P) (h : P → Q := by intro k; exact aj (N := 28) (l := [.agg #[.bool a.neg, .string a.bf, .int .i64 a.e], .agg #[.bool b.neg, .string b.bf, .int .i64 b.e]]) Tryz.func184 rfl rfl (by simp) k) : Q := h p
theorem vq {P Q : Prop} (p : P) (h : P → Q := by intro k; exact cX (aa (cF (aq (ai (sr k)))))) : Q := h p
theorem Cg {P Q : Prop} (p : P) (h : P → Q := by intro k; exact ct (vs := [_, _, _]) aP.out rfl (((hr.ext hh.below).recAt NR.len hx)) rfl Se k) : Q := h p
theorem u2 {P Q : Prop} (p : P) (h : P → Q := by intro k; exact dr hh (cs := [_, _, _, _, _, _]) bq.out aP.out (bC (iq rfl) (bC (iq rfl) dF)) rfl rfl Se Se Se rfl Se k) : Q := h p
theorem zz {P Q : Prop} (p : P) (h : P → Q := by intro k; exact br hh (kJ 1 _ (hT.hp hh) Sd Sd) rfl k) : Q := h p
theorem Dn {P Q : Prop} (p : P) (h : P → Q := by intro k; exact db (k := 0) bq.out aP.size rfl rfl Sd Sd Se k) : Q := h p
theorem ix {P Q : Prop} (p : P) (h : P → Q := by intro k; exact qa (by first | exact xt rfl | exact wY rfl) Se k) : Q := h p
theorem yP {P Q : Prop} (p : P) (h : P → Q := by intro k; exact aa (cF (aq (bg (ai (al k)))))) : Q := h p
theorem Ip {P Q : Prop} (p : P) (h : P → Q := by intro k; exact Ba (b := 1) rfl rfl (by first | assumption | omega) (by first | assumption | omega) Se k) : Q := h p
theorem qp {P Q : Prop} (p : P) (h : P → Q := by intro k; exact cR hh (i := 1) rfl rfl rfl (hh.aD (i := 0) rfl) bq.out aP.out rfl Se (by first | rfl | exact ez _ | exact du _ | exact bU _ | exact cw NR.one _) Sd Sd Se k) : Q := h p
theorem B7 {P Q : Prop} (p : P) (h : P → Q := by intro k; exact a6 (aa (cT (aq (ai (ah (ao k))))))) : Q := h p
theorem GK {P Q : Prop} (p : P) (h : P → Q := by intro k; exact ee (aa (cT (aq (ai (ah (ao (ah (sr (mL (mI k))))))))))) : Q := h p
theorem yC {P Q : Prop} (p : P) (h : P → Q := by intro k; exact br hh (iP A n c j xs _ (hx.ext hh.below) hdx Sd Sd) rfl k) : Q := h p
theorem yD {P Q : Prop} (p : P) (h : P → Q := by intro k; exact br hh (iP B m c' j ys _ (hy.ext hh.below) hdy Sd Sd) rfl k) : Q := h p
theorem tH {P Q : Prop} (p : P) (h : P → Q := by intro k; exact a6 (aa (cT (aq (ai (ah (ao (sr (mL (mI k)))))))))) : Q := h p
theorem Dz {P Q : Prop} (p : P) (h : P → Q := by intro k; exact gD (n := n) hh rfl rfl Sd Sd bq.out aP.out rfl Sd Sd Se k) : Q := h p
theorem He {P Q : Prop} (p : P) (h : P → Q := by intro k; exact bY hh (i := 0) (vs := [_]) rfl rfl (cJ rfl) rfl aP.out rfl (by rw [hll]; omega) rfl k) : Q := h p
theorem BP {P Q : Prop} (p : P) (h : P → Q := by intro k; exact aC (eQ a _ ha) ak.out rfl Se k) : Q := h p
theorem GQ {P Q : Prop} (p : P) (h : P → Q := by intro k; exact br hh (gY _ _ _ (aQ 2 (bN m)) _ (hh.aD (i := 0) rfl) (kR _) (hh.fI (i := 0) rfl) Sd) rfl k) : Q := h p
theorem Ck {P Q : Prop} (p : P) (h : P → Q := by intro k; exact II (dy rfl (dz (vs := [_, _]) aP.out (hh.bH (i := 1) (n := 2) rfl rfl) rfl) fq) k) : Q := h p
theorem xS {P Q : Prop} (p : P) (h : P → Q := by intro k; exact aa (cT (sr (aI (aa (au (aG k))))))) : Q := h p
theorem u7 {P Q : Prop} (p : P) (h : P → Q := by intro k; exact aa (cF (aq (ai (sr (bF k)))))) : Q := h p
theorem Ij {P Q : Prop} (p : P) (h : P → Q := by intro k; exact II (dy rfl (dz (vs := [_, _, _]) aP.out (hh.bH (i := 0) (n := 3) rfl rfl) rfl) fq) k) : Q := h p
theorem sH {P Q : Prop} (p : P) (h : P → Q := by intro k; exact aI (aa (ah (ao (sr (bF k)))))) : Q := h p
theorem uB {P Q : Prop} (p : P) (h : P → Q := by intro k; exact cg (mB (gT (mL (gT (aK (gT k))))))) : Q := h p
theorem HG {P Q : Prop} (p : P) (h : P → Q := by intro k; exact aU 7 [[(2, none)], [(0, none)], [(26, some 1)], [(27, some 2)], [(1, none)], [(29, some 4)], [(30, some 5)]] [(6, 31), (5, 30), (4, 29), (3, 28), (2, 27), (1, 26), (0, 25)] hh mixed Sf k) : Q := h p
theorem Gt {P Q : Prop} (p : P) (h : P → Q := by intro k; exact aX (bp (ae v31 (ae v30 (ae v29 (ae v28 (ae v27 (ae v26 (ae v25 aW)))))))) k) : Q := h p
theorem G3 {P Q : Prop} (p : P) (h : P → Q := by intro k; exact ct (vs := [_, _, _, _]) aP.out rfl ((hr.ext hh.below).recAt TR.len hxx) rfl Se k) : Q := h p
theorem BI {P Q : Prop} (p : P) (h : P → Q := by intro k; exact dr hh (cs := [_, _, _, _]) bq.out aP.out (bC (iq rfl) dF) rfl rfl Se Se Se rfl Se k) : Q := h p
theorem Cd {P Q : Prop} (p : P) (h : P → Q := by intro k; exact lL 8 Se Sf Se Sf Sf k) : Q := h p
theorem FT {P Q : Prop} (p : P) (h : P → Q := by intro k; exact ct (vs := [_, _, _, _]) aP.out rfl ((hr2.ext hh.below).recAt TR.len hyy) rfl Se k) : Q := h p
theorem zk {P Q : Prop} (p : P) (h : P → Q := by intro k; exact sr (aI (aa (ah (sr (mL (aK (mI (aa (ao k)))))))))) : Q := h p
theorem qT {P Q : Prop} (p : P) (h : P → Q := by intro k; exact a6 (aa (ah (cT (aq (ai (ah (ao (sr (mI (aI (aa (sr k))))))))))))) : Q := h p
theorem qN {P Q : Prop} (p : P) (h : P → Q := by intro k; exact cG (k := j) bq.out aP.size rfl rfl Sd Sd Se k) : Q := h p
theorem zO {P Q : Prop} (p : P) (h : P → Q := by intro k; exact aa (cF (aq (bg (ai (al (mI k))))))) : Q := h p
theorem yJ {P Q : Prop} (p : P) (h : P → Q := by intro k; exact PR (dy rfl (dz (vs := [_, _]) aP.out (hh.bH (i := 0) (n := 2) rfl rfl) rfl) (jq (j6 rfl) fq)) k) : Q := h p
theorem C4 {P Q : Prop} (p : P) (h : P → Q := by intro k; exact bY hh (i := 0) (vs := [_, _, _]) rfl rfl (iq rfl) rfl aP.out rfl Sd rfl k) : Q := h p
theorem CF {P Q : Prop} (p : P) (h : P → Q := by intro k; exact PR (dy rfl (dz (vs := [_, _]) aP.out (hh.bH (i := 1) (n := 2) rfl rfl) rfl) (jq (j6 rfl) fq)) k) : Q := h p
theorem HN {P Q : Prop} (p : P) (h : P → Q := by intro k; exact aj (N := 45) (l := [.string a, .string b, .func (.func g) #[] #[]]) Tryz.func206 rfl rfl (by simp) k) : Q := h p
theorem Dr {P Q : Prop} (p : P) (h : P → Q := by intro k; exact cG bq.out aP.size rfl rfl rfl Sd Se k) : Q := h p
theorem GU {P Q : Prop} (p : P) (h : P → Q := by intro k; exact aj (N := 58) (l := [.agg #[.int .i64 v, .slice A n c]]) Tryz.func142 rfl rfl (by simp) k) : Q := h p
theorem qJ {P Q : Prop} (p : P) (h : P → Q := by intro k; exact ct (vs := [_, _, _, _]) aP.out rfl ((hr.ext hh.below).recAt TR.len hx) rfl Se k) : Q := h p
theorem xJ {P Q : Prop} (p : P) (h : P → Q := by intro k; exact pg (i := 9) rfl (fun ρ1 w1 hj hR => (show ρ1 27 = Value.bool _ from hR.2.1)) (fun ρ1 w1 hj hR => aZ ak.out (aA (show ρ1 29 = Value.agg (List.toArray _) from hR.1) a7)) (fun w1 hj => hsg _) k) : Q := h p
theorem CD {P Q : Prop} (p : P) (h : P → Q := by intro k; exact pg (i := 15) rfl (fun ρ1 w1 hj hR => (show ρ1 33 = Value.bool _ from hR.2.1)) (fun ρ1 w1 hj hR => aZ ak.out (aA (show ρ1 35 = Value.agg (List.toArray _) from hR.1) a7)) (fun w1 hj => hfo _ (hT.hp hj.hp)) k) : Q := h p
theorem HB {P Q : Prop} (p : P) (h : P → Q := by intro k; exact DL (i := 18) rfl (fun ρ1 w1 hj hR => (show ρ1 33 = Value.bool _ from hR.2.2.1)) (fun ρ1 w1 hj hR => CG (show ρ1 36 = Value.agg (List.toArray _) from hR.1) (show ρ1 38 = Value.agg (List.toArray _) from hR.2.1) (by first | assumption | rfl)) k) : Q := h p
theorem BT {P Q : Prop} (p : P) (h : P → Q := by intro k; exact aX (bp (ae v53 (ae v52 (ae v51 (ae v50 (ae v49 (ae v48 (ae v47 (ae v46 (ae v45 (ae v44 (ae v43 (ae v42 (ae v41 (ae v40 (ae v39 (ae v38 (ae v37 (ae v36 (ae v35 (ae v34 (ae v33 (ae v32 (ae v31 (ae v30 (ae v29 (ae v28 (ae v27 (ae v26 (ae v25 (ae v24 (ae v23 (ae v22 (ae v21 aW)))))))))))))))))))))))))))))))))) k) : Q := h p
theorem DJ {P Q : Prop} (p : P) (h : P → Q := by intro k; exact aj (N := 25) (l := [.int .i64 v, .slice A n c]) Tryz.func72 rfl rfl (by simp) k) : Q := h p
theorem qS {P Q : Prop} (p : P) (h : P → Q := by intro k; exact sB rfl (aA (Bh rfl) a7) Se k) : Q := h p
theorem LL {P Q : Prop} (p : P) (h : P → Q := by intro k; exact aU 6 [[(2, none)], [(4, some 0)], [(1, none)], [(6, some 2)], [(7, some 3)], [(8, some 4)]] [(5, 9), (4, 8), (3, 7), (2, 6), (1, 5), (0, 4)] hh mixed Sf k) : Q := h p
theorem F6 {P Q : Prop} (p : P) (h : P → Q := by intro k; exact ct (vs := [_, _]) aP.out rfl ((hr.ext hh.below).recAt PX.len hx) rfl Se k) : Q := h p
theorem Gb {P Q : Prop} (p : P) (h : P → Q := by intro k; exact a6 (aa (ah (cF (aV (aE (aE (bo (ai (ah (sr k))))))))))) : Q := h p
theorem nh {P Q : Prop} (p : P) (h : P → Q := by intro k; exact cv aP.out rfl ((hr.ext hh.below).DB hgi) Se k) : Q := h p
theorem vH {P Q : Prop} (p : P) (h : P → Q := by intro k; exact aj (N := 29) (l := [.agg #[.slice A n c, .slice B m c2]]) Tryz.func41 rfl rfl (by simp) k) : Q := h p
theorem CS {P Q : Prop} (p : P) (h : P → Q := by intro k; exact br hh (eA A n c ds _ (hS.ext hh.below) hn) rfl k) : Q := h p
theorem F2 {P Q : Prop} (p : P) (h : P → Q := by intro k; exact aU 6 [[(1, none)], [(19, some 0)], [(20, some 1)], [(1, none)], [(22, some 3)], [(23, some 4)]] [(5, 24), (4, 23), (3, 22), (2, 21), (1, 20), (0, 19)] hh mixed Sf k) : Q := h p
theorem Gd {P Q : Prop} (p : P) (h : P → Q := by intro k; exact aX (bp (ae v24 (ae v23 (ae v22 (ae v21 (ae v20 (ae v19 aW))))))) k) : Q := h p
theorem qu {P Q : Prop} (p : P) (h : P → Q := by intro k; exact dr hh (cs := [_, _, _]) bq.out aP.out (bC (iq rfl) dF) rfl rfl Se Se Se rfl Se k) : Q := h p
theorem te {P Q : Prop} (p : P) (h : P → Q := by intro k; exact a6 (aa (ah (cF (aV (aE (aE (bo (bg (ai (al k))))))))))) : Q := h p
theorem Cu {P Q : Prop} (p : P) (h : P → Q := by intro k; exact a6 (aa (cT (aq (ai (ah (ao (ah k)))))))) : Q := h p
theorem Hm {P Q : Prop} (p : P) (h : P → Q := by intro k; exact bY hh (i := 3) (vs := [_, _, _]) rfl rfl (iq rfl) rfl aP.out rfl Sd rfl k) : Q := h p
theorem IB {P Q : Prop} (p : P) (h : P → Q := by intro k; exact aU 8 [[(0, none)], [(5, none)], [(17, some 0), (18, some 1)], [(19, some 2)], [(1, none)], [(5, none)], [(21, some 4), (22, some 5)], [(23, some 6)]] [(7, 24), (6, 23), (5, 22), (4, 21), (3, 20), (2, 19), (1, 18), (0, 17)] hh mixed Sf k) : Q := h p
theorem LQ {P Q : Prop} (p : P) (h : P → Q := by intro k; exact bB (i := 2) (fun ρ1 w1 hj hR => eT bq.out aP.size (show ρ1 17 = Value.slice _ _ _ from hR.1) (show ρ1 18 = Value.int _ _ from hR.2.1) Sd Sd) k) : Q := h p
theorem Lg {P Q : Prop} (p : P) (h : P → Q := by intro k; exact bB (i := 6) (fun ρ1 w1 hj hR => eT bq.out aP.size (show ρ1 21 = Value.slice _ _ _ from hR.1) (show ρ1 22 = Value.int _ _ from hR.2.1) Sd Sd) k) : Q := h p
theorem GS {P Q : Prop} (p : P) (h : P → Q := by intro k; exact aX (bp (ae v24 (ae v23 (ae v22 (ae v21 (ae v20 (ae v19 (ae v18 (ae v17 aW))))))))) k) : Q := h p
theorem DM {P Q : Prop} (p : P) (h : P → Q := by intro k; exact aj (N := 44) (l := [.agg #[.slice fx.A fx.n fx.a, .slice fx.B fx.m fx.b], .int .i64 ax, .agg #[.bool sn.neg, .string sn.bf, .int .i64 sn.e]]) Tryz.func84 rfl rfl (by simp) k) : Q := h p
theorem gW {P Q : Prop} (p : P) (h : P → Q := by intro k; exact br hh (hck _ (hT.hp hh) hh.below) rfl k) : Q := h p
theorem Gs {P Q : Prop} (p : P) (h : P → Q := by intro k; exact N9 (dy rfl (dz (vs := [_, _]) aP.out (hh.bH (i := 1) (n := 2) rfl rfl) rfl) (dy rfl (dz (vs := [_, _]) aP.out (hh.bH (i := 0) (n := 2) rfl rfl) rfl) (jq (j6 rfl) fq))) k) : Q := h p
theorem nq {P Q : Prop} (p : P) (h : P → Q := by intro k; exact wV eO.out rfl Se k) : Q := h p
theorem Lz {P Q : Prop} (p : P) (h : P → Q := by intro k; exact mR [] [0, 0, 0, 4, 15, 31, 31, 31, 255, 511, 1023] 4 [[(2, none)], [(1, none)], [], [(9, some 2)]] [(3, 10), (2, 9), (1, 8), (0, 7)] [([], 6, [(3, 10), (2, 9), (1, 8), (0, 7)])] hh mixed Sf Sf Se k) : Q := h p
theorem HC {P Q : Prop} (p : P) (h : P → Q := by intro k; exact aj (N := 51) (l := [.agg #[.slice fx.A fx.n fx.a, .slice fx.B fx.m fx.b], .slice L m2 c2]) Tryz.func24 rfl rfl (by simp) k) : Q := h p
theorem vm {P Q : Prop} (p : P) (h : P → Q := by intro k; exact cX (aa (cF (aq (ai (ah (sr (mL k)))))))) : Q := h p
theorem sj {P Q : Prop} (p : P) (h : P → Q := by intro k; exact PR (dy rfl (dz (vs := [_, _]) aP.out (hh.bH (i := 2) (n := 2) rfl rfl) rfl) (jq (j6 rfl) fq)) k) : Q := h p
theorem DK {P Q : Prop} (p : P) (h : P → Q := by intro k; exact aj (N := 18) (l := [.agg #[.bool a.neg, .string a.bf, .int .i64 a.e]]) Tryz.func81 rfl rfl (by simp) k) : Q := h p
theorem Io {P Q : Prop} (p : P) (h : P → Q := by intro k; exact dr hh (cs := [_, _]) bq.out aP.out (bC rfl (bC rfl dF)) rfl rfl Se Se Se rfl Se k) : Q := h p
theorem LK {P Q : Prop} (p : P) (h : P → Q := by intro k; exact dr hh (cs := [_, _, _]) bq.out aP.out (bC rfl (bC rfl (bC rfl dF))) rfl rfl Se Se Se rfl Se k) : Q := h p
theorem HL {P Q : Prop} (p : P) (h : P → Q := by intro k; exact ct (vs := [_, _, _, _, _, _]) aP.out rfl ((hr.ext hh.below).recAt SR.len hs) rfl Se k) : Q := h p
theorem zN {P Q : Prop} (p : P) (h : P → Q := by intro k; exact aj (N := 58) (l := [.agg #[.int .i64 p.v, .slice p.A p.n p.c], .slice L n c, .slice M m mc]) Tryz.func87 rfl rfl (by simp) k) : Q := h p
theorem uF {P Q : Prop} (p : P) (h : P → Q := by intro k; exact cX (aa (cF (aq (ai (ah (sr (mL (aK (bF k)))))))))) : Q := h p
theorem zQ {P Q : Prop} (p : P) (h : P → Q := by intro k; exact cv aP.out rfl ((hr.ext hh.below).DB hy2) Se k) : Q := h p
theorem BW {P Q : Prop} (p : P) (h : P → Q := by intro k; exact aa (cT (sr (aI (aa (au (bQ (aG (aG (bQ (aG k))))))))))) : Q := h p
theorem FA {P Q : Prop} (p : P) (h : P → Q := by intro k; exact PR (dy rfl (dz (vs := [_, _]) aP.out (hh.bH (i := 3) (n := 2) rfl rfl) rfl) (jq (j6 rfl) fq)) k) : Q := h p
theorem Da {P Q : Prop} (p : P) (h : P → Q := by intro k; exact aj (N := 34) (l := [.int .i64 v, .int .i64 x]) Tryz.func117 rfl rfl (by simp) k) : Q := h p
theorem KV {P Q : Prop} (p : P) (h : P → Q := by intro k; exact aj (N := 42) (l := [.agg #[.int .i64 p.v, .slice p.A p.n p.c], .agg #[.bool c.neg, .string c.bf, .int .i64 c.e]]) Tryz.func53 rfl rfl (by simp) k) : Q := h p
theorem Hn {P Q : Prop} (p : P) (h : P → Q := by intro k; exact cv aP.out rfl (((hr.ext hh.below).recAt TR.len hx).cell (i := 0) rfl) Se k) : Q := h p
theorem H7 {P Q : Prop} (p : P) (h : P → Q := by intro k; exact a6 (aa (ah (cF (aV (aE (aE (bo (ai (sr (mL (aL (aa (au k)))))))))))))) : Q := h p
theorem L3 {P Q : Prop} (p : P) (h : P → Q := by intro k; exact aU 6 [[(8, none)], [(3, none)], [(21, some 1)], [(20, some 0), (22, some 2)], [(3, none)], [(24, some 4)]] [(5, 25), (4, 24), (3, 23), (2, 22), (1, 21), (0, 20)] hh mixed Sf k) : Q := h p
theorem KX {P Q : Prop} (p : P) (h : P → Q := by intro k; exact bB (i := 3) (fun ρ1 w1 hj hR => sI (show ρ1 20 = Value.int _ _ from hR.1) (show ρ1 22 = Value.int _ _ from hR.2.1) Sd Sd Sd) k) : Q := h p
theorem HZ {P Q : Prop} (p : P) (h : P → Q := by intro k; exact aj (N := 77) (l := [.agg #[.int .i64 pv, .slice pA pn pc], .slice L n c]) Tryz.func18 rfl rfl (by simp) k) : Q := h p
theorem Hj {P Q : Prop} (p : P) (h : P → Q := by intro k; exact aj (N := 38) (l := [.slice L n c, .int .i64 a]) Tryz.func22 rfl rfl (by simp) k) : Q := h p
theorem Lt {p : Prop} (h : p := by
  refine ⟨⟨i + 1, Sd, rfl, hh⟩, by show (n - m / 64) - (i + 1) < (n - m / 64) - i; omega, ?_⟩;exact eB) : p := h
theorem Lw {p : Prop} (h : p := by
  refine aa (sr (mI ?_));refine a9 (mL (aK ?_));refine a6 (mB ?_);refine gS (gS (gS ?_));refine fa ?_;exact LB) : p := h
theorem LW {p : Prop} (h : p := by
  refine eN ?_;refine fL (i := 2) Sf rfl ?_;refine bK hh 3 [_,_] ?_;intro ws hh;replace hh : Hp _ (_ :: _ :: _ :: .blk _ _ [_, _] _ :: _) _ := hh;exact Ll) : p := h
theorem LF {p : Prop} (h : p := by
  refine qw bq.out bq.out bq.out rfl (hh.aD (i := 0) rfl) Se ?_;exact EF) : p := h
theorem Lm {p : Prop} (h : p := by
  refine ⟨⟨i + 1, _, Sd, rfl, hS3.symm, hh⟩, by show n - (i + 1) < n - i; omega, ?_⟩;exact eB) : p := h
theorem Lo {p : Prop} (h : p := by
  refine aa (cT (sr ?_));refine br hh (jy _ (hT.hp hh)) rfl ?_;intro w36 hh;exact MB) : p := h
theorem Lr {p : Prop} (h : p := by
  refine aa (cT (sr (aB (aa (au (bQ (aG (aG (bQ (aG ?_))))))))));exact Ea) : p := h
theorem LR {p : Prop} (h : p := by
  refine ⟨⟨j + 1, Sd, rfl, hh⟩, by show d - i + 1 - (j + 1) < d - i + 1 - j; omega, ?_⟩;exact eB) : p := h
theorem K6 {p : Prop} (h : p := by
  rw [Ux];split
  ·exact List.nodup_nil
  ·exact Uk.2 ⟨by simp, List.nodup_nil⟩) : p := h
theorem KR {p : Prop} (h : p := by
  refine aa (cT (sr (aB (aa (au (aG (bQ (aG (aG (bQ (aG ?_)))))))))));exact Ea) : p := h
theorem LM {p : Prop} (h : p := by
  refine o7 ?_;exact ⟨rfl, hh.below⟩) : p := h
theorem K8 {p : Prop} (h : p := by
  refine Ck ?_;exact ⟨rfl, hh.below⟩) : p := h
theorem K4 {p : Prop} (h : p := by
  refine Ij ?_;exact ⟨rfl, hh.below⟩) : p := h
theorem LY {p : Prop} (h : p := by
  refine II (dy rfl (dz (vs := [_, _, _, _, _, _]) aP.out (hh.bH (i := 0) (n := 6) rfl rfl) rfl) fq) ?_;exact ⟨rfl, hh.below⟩) : p := h
theorem KY {p : Prop} (h : p := by
  refine ⟨⟨i, _, _, Sd, rfl, by rw [d1]; rfl, by rw [d1]; exact hh⟩, by show ((i : Int) - 1 + 1).toNat < ((i : Int) + 1).toNat; omega, ?_⟩;exact eB) : p := h
theorem Ls {p : Prop} (h : p := by
  refine pK ?_;refine dS (dS (dS (dS (dS ?_))));refine wZ (i := 18) rfl (fun ρ1 w1 hj hR => (show ρ1 33 = Value.bool _ from hR.2.2.1)) Se ?_;refine IM ?_;exact QO) : p := h
theorem LN {p : Prop} (h : p := by
  refine eN ?_;refine fL (i := 2) Sf rfl ?_;refine bK hh 4 [_,_] ?_;intro ws hh;replace hh : Hp _ (_ :: _ :: _ :: _ :: .blk _ _ [_, _] _ :: _) _ := hh;exact OT) : p := h
theorem LD {p : Prop} (h : p := by
  refine aj (N := 9) (l := [.int .i64 v]) Tryz.func134 rfl rfl (by simp) ?_;refine sr (aB (aa (sr (mI ?_))));refine ee (mB (gT (mI (gT ?_))));refine MM ?_;refine fV ?_;exact vV) : p := h
theorem Dh {p : Prop} (h : p := by
  refine ee (aB (aa (au ?_)));refine da ?_;exact ⟨rfl, hh.below⟩) : p := h
theorem CX {p : Prop} (h : p := by
  exact ⟨g, og, rfl, hh.sub (Sk _ (TN _))⟩) : p := h
theorem LZ {p : Prop} (h : p := by
  refine mB ?_;refine gS (gS ?_);refine kP ?_;refine gS (gS (gS ?_));refine fa ?_;refine qX ?_;refine cu hh 0 [_,_] ?_;exact H4) : p := h
theorem K0 {p : Prop} (h : p := by
  refine aC (hpu _ (hT.hp hh) hh.below) ak.out rfl Se ?_;rintro e_ w51 ⟨g, og, rfl, h3⟩;refine ⟨_, rfl, ?_⟩;replace hh := hh.join h3;simp only [Sv, Ss] at hh;refine cE ?_;refine cE ?_;exact OH) : p := h
theorem K1 {p : Prop} (h : p := by
  have hik : i = k := by
   rcases S6 i k with h | h
   ·exact absurd ⟨i, h, h2, h3⟩ hex
   ·omega
  subst hik;refine ⟨i, h2, h3, fun j hj => ?_⟩
  cases hc2 : L.getD j false with
  | true => rfl
  | false => exact absurd ⟨j, hj, Sd, hc2⟩ hex) : p := h
theorem Lj {p : Prop} (h : p := by
  have h1 : L.toList.countP (fun b => b) = L.toList.length := by
   have := hI.ls; simp only [Array.length_toList]; omega
  have h2 := List.countP_eq_length.1 h1;have h3 : i < L.size := by rw [hI.ls, hnn]; exact hi
  have := h2 L[i] (by simp);simpa [h3] using this) : p := h
theorem Gq {p : Prop} (h : p := by
  intro A7 c7 w7 hh;simp only [Sy] at hh;rw [SM] at hh ⊢;rw [Ss] at hh;refine aL (aa (au ?_));exact MQ) : p := h
theorem xD {p : Prop} (h : p := by
  refine ⟨⟨i + 1, Sd, rfl, hh⟩, by show n - (i + 1) < n - i; omega, ?_⟩;exact eB) : p := h
theorem LG {p : Prop} (h : p := by
  replace hh := hh.perm (Tr (l₁ := [_]));simp only [Sv, Ss] at hh;replace hh := hh.perm (Tr (l₁ := [_, _]));simp only [Sv, Ss] at hh;refine ⟨⟨i + 1, _, _, _, _, Sd, rfl, by rw [hsn]; exact hh⟩, by show m2 - (i + 1) < m2 - i; omega, ?_⟩;exact eB) : p := h
theorem BS {p : Prop} (h : p := by
  refine bK hh 0 [_,_] ?_;intro ws hh;replace hh : Hp _ (.blk _ _ [_, _] _ :: _) _ := hh;refine aa (au (aG ?_));exact Rp) : p := h
theorem L4 {p : Prop} (h : p := by
  refine bK hh 1 [_,_] ?_;intro ws hh;replace hh : Hp _ (_ :: .blk _ _ [_, _] _ :: _) _ := hh;refine fG ?_;refine a9 (mI (az (ai ?_)));replace hh := hh.sub (Th _ _);refine ⟨⟨i + 1, _, _, Sd, rfl, hS3.symm, hpl, by unfold IR.v at hba ⊢; omega, hh⟩, by show n - (i + 1) < n - i; omega, ?_⟩;exact eB) : p := h
theorem CP {p : Prop} (h : p := by
  refine bK hh 1 [_,_] ?_;intro ws hh;replace hh : Hp _ (_ :: .blk _ _ [_, _] _ :: _) _ := hh;refine aI (aa (au ?_));exact MO) : p := h
theorem LB {p : Prop} (h : p := by
  refine yP ?_;refine a9 (mI (az (ai ?_)));rw [e1, hac, ← hnew] at hh;exact Lt) : p := h
theorem Lf {p : Prop} (h : p := by
  have hil : i < l.length := Sd;have hE := hedge i hil;have ho : l.toArray[i]? = some l[i] := by simp [hil]
  rw [ho] at hE;have hmem : i ∈ Region.ready .any l.toArray L := (hready_spec i).2 ⟨hil, by
   have h3 : i < L.size := by rw [hI.ls, hnn]; exact hil
   rw [Tn] at hu ⊢;rw [Ut h3] at hu ⊢;simpa using hu, l[i], ho, fun e he hb => by
   have := Vt.1 hE e he;simp only [hb, Bool.not_true, Tf, SJ] at this;exact hlow _ this⟩
  rw [hnil] at hmem
  cases hmem) : p := h
theorem KZ {p : Prop} (h : p := by
  refine Ip ?_;refine gj ?_;refine He ?_;intro ws hh;simp only [Sy] at hh;rw [hand, es, SI, cB (by rw [hll]; omega), oM, ← b1, hfk] at hh;refine aa (al (mI ?_));refine lg (s := 1) (m := 2) rfl rfl Se Se Se ?_;refine aI (az (bg (ai (al (mI ?_)))));refine a9 (aI (az (ai ?_)));rw [es];refine ⟨⟨i + 1, Sd, rfl, by rw [b2]; rfl, hh⟩, by show K - (i + 1) < K - i; omega, ?_⟩;exact eB) : p := h
theorem Ll {p : Prop} (h : p := by
  refine eN ?_;refine lL 3 Se Sf Se Sf Sf ?_;refine bK hh 2 [_,_] ?_;intro ws hh;replace hh : Hp _ (_ :: _ :: .blk _ _ [_, _] _ :: _) _ := hh;refine aB (aa (au ?_));refine N9 (dy rfl (dz (vs := [_, _]) aP.out (hh.bH (i := 3) (n := 2) rfl rfl) rfl) (dy rfl (dz (vs := [_, _]) aP.out (hh.bH (i := 2) (n := 2) rfl rfl) rfl) (jq (mj rfl) fq))) ?_;exact ⟨rfl, hh.below⟩) : p := h
theorem B9 {p : Prop} (h : p := by
  refine fR (hc _ hh.below) ak.out rfl rfl Se ?_;rintro e_ w16 ⟨rfl, hb_⟩;refine ⟨_, rfl, ?_⟩;replace hh := hh.ext hb_;refine yP ?_;refine a9 (mI (az (ai ?_)));refine ⟨⟨i + 1, Sd, rfl, by rw [ay hz, Ve, hall, UQ, Va, gz]; rfl, hh⟩, by show n - (i + 1) < n - i; omega, ?_⟩;exact eB) : p := h
theorem Ly {p : Prop} (h : p := by
  refine eN ?_;refine fL (i := 8) Sf rfl ?_;refine fR (hsm _ (hT.hp hh)) ak.out rfl rfl Se ?_; rintro e_ w41 ⟨rfl, hb_⟩; refine ⟨_, rfl, ?_⟩; replace hh := hh.ext hb_;refine eN ?_;refine fL (i := 9) Sf rfl ?_;refine BI ?_;intro b42 w42 hh;refine eN ?_;refine fL (i := 10) Sf rfl ?_;refine qp ?_;intro A43 c43 w43 hh;simp only [Sy, Tb] at hh;replace hh := hh.sub (Th _ _);refine eN ?_;refine lL 15 Se Sf Se Sf Sf ?_;refine aL (aL (aL (az (bg (bg (ai ?_))))));replace hh := hh.sub (Sk _ SD);refine ⟨⟨_, n - 1, c - 1, X, _, m - 1, c2 - 1, Y, O ++ [⟨x.m, nR (x.c.d + y.c.d)⟩], A43, c43, rfl, rfl, ?_, Sd, Sd, hSt, hSt2, hmg.both h1 h2 hk, ?_⟩, by show (n - 1) + (m - 1) < n + m; omega, ?_⟩
  ·exact P9
  ·rw [Sr, cA];exact hh
  ·exact eB) : p := h
theorem OW {p : Prop} (h : p := by
  unfold iZ;rw [hsl, hgd, hns, Vk, Ue, S5]
  rfl) : p := h
theorem NZ {p : Prop} (h : p := by
  refine cX (aB (aa (au ?_)));refine da ?_;exact ⟨by rw [SF hg], hh.below⟩) : p := h
theorem OA {p : Prop} (h : p := by
  rw [Sw (by rw [UU]; omega), Sw Sd]
  rfl) : p := h
theorem N4 {p : Prop} (h : p := by
  have h1 : bN m ≠ 0 := fun h => h0 (by rw [h, mN]);rw [SF h1];exact ⟨rfl, hh.below⟩) : p := h
theorem OR {p : Prop} (h : p := by
  refine aS (aB (aa (au ?_)));refine Fx ?_;rw [SF Sd];exact ⟨rfl, hh.below⟩) : p := h
theorem Oa {p : Prop} (h : p := by
  refine aa (cT (sr (aL (aL (aI (aa (au (aG ?_))))))));refine Qu ?_;exact ⟨rfl, hh.below⟩) : p := h
theorem Pq {p : Prop} (h : p := by
  refine cX (aB (aa (au ?_)));refine da ?_;exact ⟨by rw [SQ Sd], hh.below⟩) : p := h
theorem OI {p : Prop} (h : p := by
  intro ρ1 w1 hj hR;exact let ⟨g, u, e1, e2⟩ := hR.1; gK rfl (eJ e1) ⟨Below.refl _ _, g, u, rfl, e2⟩) : p := h
theorem N6 {p : Prop} (h : p := by
  obtain ⟨cs, h6, h7⟩ := h5 i Sd;rw [hc] at h6;obtain ⟨a, rfl, h8⟩ := one _ _ _ h7;exact ⟨a, h6, h8⟩) : p := h
theorem Nq {p : Prop} (h : p := by
  rw [ho] at ho'; injection ho' with ho'; subst ho'; exact hed) : p := h
theorem OV {p : Prop} (h : p := by
  unfold qi;split
  ·rename_i hpe;have := gu.1 (cm hpe).1;rw [fm];omega
  ·exact Sn _) : p := h
theorem PK {p : Prop} (h : p := by
  refine da ?_;rw [← hcut, Sr, SP, Tp Sd];exact ⟨rfl, hh.below⟩) : p := h
theorem Pd {p : Prop} (h : p := by
  have := hp t (jd t ht) (i + 1) (by rw [SG]; omega);rwa [show j + 1 + i = j + (i + 1) by omega]) : p := h
theorem Og {p : Prop} (h : p := by
  have h1 : bN m = 0 := by rw [← mN] at h0; exact Ia h0
  rw [SQ Sd];exact ⟨rfl, hh.below⟩) : p := h
theorem PO {p : Prop} (h : p := by
  induction xs generalizing ys c with
  | nil => exact Dg.nil
  | cons x xs ih => exact Dg.cons (SO _ hB) (ih _ _)) : p := h
theorem NT {p : Prop} (h : p := by
  cases p with
  | nil => show Sz k (nR 0).d; rw [cn]; exact Sz.zero k
  | cons t p => exact (hok t Sq).2) : p := h
theorem NW {p : Prop} (h : p := by
  intro ρ1 w1 hj hR;exact let ⟨g, u, e1, e2⟩ := hR.1; gK rfl (de (vs := [_, _]) e1 rfl) ⟨Below.refl _ _, rfl⟩) : p := h
theorem PF {p : Prop} (h : p := by
  refine aS (aa (au ?_));refine da ?_;rw [Su Sd] at hT;rw [hT];exact ⟨rfl, hh.below⟩) : p := h
theorem Pp {p : Prop} (h : p := by
  rw [show (18446744073709551616 : Nat) = 2 ^ 64 from rfl, ← S7];exact S4 Sd Sd) : p := h
theorem NH {p : Prop} (h : p := by
  rw [gZ Sd (fT Sd _ _), cU hbd]) : p := h
theorem My {p : Prop} (h : p := by
  exact ⟨PX.nil, gh.err he, rfl, (hh.sub (TN _)).EU⟩) : p := h
theorem Pn {p : Prop} (h : p := by
  intro ρ1 w1 hj hR;exact let ⟨g, u, e1, e2⟩ := hR.1; gK rfl (de (vs := [_, _]) e1 rfl) ⟨Below.refl _ _, g, u, rfl, e2⟩) : p := h
theorem P9 {p : Prop} (h : p := by
  show Value.slice _ (O.length + 1) _ = Value.slice _ (O ++ [(⟨x.m, nR (x.c.d + y.c.d)⟩ : TR)]).length _;rw [Sr]
  rfl) : p := h
theorem Oc {p : Prop} (h : p := by
  have := sc n zc;rw [hzl] at this;unfold madeCells;rw [hzc];have e2 : zc.toArray.size = sz := by simpa using hzl
  rw [e2, this]) : p := h
theorem IU {p : Prop} (h : p := by
  induction n with
  | zero => grind
  | succ n ih => grind) : p := h
theorem Ke {p : Prop} (h : p := by
  rw [hd] at h1;rw [hd];exact ⟨_, _, rfl, h1, hh.below⟩) : p := h
theorem O7 {p : Prop} (h : p := by
  refine aI (aa (sr (mI ?_)));refine cX (aa (cT (sr (mI (aI (aa (au (aG ?_))))))));refine da ?_;exact ⟨rfl, hh.below⟩) : p := h
theorem O9 {p : Prop} (h : p := by
  unfold Program.cellsOf at hc
  cases hi : P.info? fd.type with
  | none => simp [hi] at hc
  | some i => exact ⟨i, rfl, by simpa [hi] using hc⟩) : p := h
theorem Ns {p : Prop} (h : p := by
  cases rest with
  | nil => simp at hlen; omega
  | cons x r => exact ⟨x, r, rfl⟩) : p := h
theorem N0 {p : Prop} (h : p := by
  refine T1 fun hn => hall fun i hi => ?_
  cases hc2 : L.getD i false with
  | true => rfl
  | false => exact absurd ⟨i, hi, hc2⟩ hn) : p := h
theorem O4 {p : Prop} (h : p := by
  refine full L a w (fuel + 1) hI hall ?_;have hL : L = je l.length m := vJ (by rw [hI.ls, hnn]) hml hall hI.tl;rw [hL, z8] at hc;omega) : p := h
theorem Ox {p : Prop} (h : p := by
  have h2 := hD (i + 1) e (by simpa using he);refine ⟨h2.1, fun t ht => ?_⟩;have h3 := h2.2 t (jd t ht);rwa [show j + 1 + i = j + (i + 1) by omega]) : p := h
theorem N2 {p : Prop} (h : p := by
  refine ⟨Sd, ?_⟩;by_cases hc : x0 + 2 ^ i * (x1 % 2) < y0 + 2 ^ i * (y1 % 2)
  ·rw [Sj hc]; rw [hlt] at hc; omega
  ·rw [Si hc]; rw [hlt] at hc; omega) : p := h
theorem NB {p : Prop} (h : p := by
  rcases T8 n with h | h
  ·exact h
  ·obtain ⟨_, h1, _⟩ := hS.2 h; cases h1) : p := h
theorem NY {p : Prop} (h : p := by
  refine BW ?_;refine da ?_;rw [hbad (by simp [cM]; omega), Sj rfl];exact ⟨rfl, hh.below⟩) : p := h
theorem MF {p : Prop} (h : p := by
  refine xS ?_;refine da ?_;exact ⟨rfl, hh.below⟩) : p := h
theorem ON {p : Prop} (h : p := by
  refine a6 (aa (cT (sr (aS (aB (aa (au (aG ?_))))))));refine Fx ?_;rw [Nat.sub_eq_zero_of_le Sd, SQ Sd, mN];exact ⟨rfl, hh.below⟩) : p := h
theorem Nh {p : Prop} (h : p := by
  rw [Tn] at hun ⊢;rw [Ut hiL] at hun ⊢;simpa using hun) : p := h
theorem F0 {p : Prop} (h : p := by
  rw [St, S8 Sd]
  rfl) : p := h
theorem MB {p : Prop} (h : p := by
  refine aB (aa (au (aG ?_)));refine da ?_;exact ⟨rfl, hh.below⟩) : p := h
theorem Pr {p : Prop} (h : p := by
  have e1 : (O ++ X ++ Y).length = O.length + n + m := by rw [Sr, Sr]; omega
  exact ⟨O ++ X ++ Y, A74, c74, hd, by rw [e1], by rw [e1, cA, cA]; exact hh⟩) : p := h
theorem Oz {p : Prop} (h : p := by
  refine aa (cT (sr (aS (aI (aa (au (aG (bQ (aG (aG (bQ (aG ?_))))))))))));refine Fx ?_;obtain ⟨e1, e2⟩ := Nr hx (by simp [cM]; omega);rw [e1, e2];exact ⟨rfl, hh.below⟩) : p := h
theorem Pb {p : Prop} (h : p := by
  intro ρ1 w1 hj hR;exact let ⟨A, c, e1, o1⟩ := hR.1; let ⟨B, k, e2, o2⟩ := hR.2.1; gK rfl (q9 (cs := [_, _]) aP.out kr.out (bC e1 (bC e2 dF)) rfl) ⟨Below.refl _ _, A, c, B, k, rfl, o1, o2⟩) : p := h
theorem PG {p : Prop} (h : p := by
  refine sr ?_;refine H7 ?_;refine da ?_;exact ⟨_, _, rfl, hh.sub (Sk _ (TN _))⟩) : p := h
theorem PM {p : Prop} (h : p := by
  have h3 := hdep (i - m) Sd;rw [show m + (i - m) = i by omega] at h3;have h4 : (i - m == 0) = false := by simp; omega
  rw [h4, Tf] at h3;have := jS hM hI.cl i m hed' h3;rw [hI.tl m (So _)] at this
  cases this) : p := h
theorem Ok {p : Prop} (h : p := by
  have h1 : (Op.equal 65 (.agg #[.bool s, .string a, .int .i64 e]) (.agg #[.bool s', .string a', .int .i64 e'])).run Tryz.prog w = .ok r w := by rw [← hr]; exact M9 9997 s s' a a' e e' w
  simp only [execOp, hx, hy];simp [eqGuard, binOp, h1]) : p := h
theorem NO {p : Prop} (h : p := by
  refine ⟨hI.nd, hI.sz, fun s => ?_⟩;by_cases hs : ∃ i, (i, s) ∈ ds
  ·obtain ⟨i, hi⟩ := hs;rw [(lM _ ds s hnd).1 i hi, (hdsm i s hi).2]
  ·rw [(lM _ ds s hnd).2 fun i hi => hs ⟨i, hi⟩];exact hI.IK s fun i hi _ hd => hs ⟨i, hpre i s hi hd⟩) : p := h
theorem Px {p : Prop} (h : p := by
  have h1 : M < 256 ^ (aQ 256 M).length := pz Sd M;rw [Ib Sd h1, Td, Vg, S3, Ep (fun d hd => (dI (B := 256) Sd M).1 d (Ui.1 hd)), sb, List.map_reverse]) : p := h
theorem Oq {p : Prop} (h : p := by
  rintro e a' w' ⟨ρ', hf', hq⟩;have e1 : (fun i => a.tmps.getD i undef) = ρ := funext hf.at_;have e2 : (fun i => a'.tmps.getD i undef) = ρ' := funext hf'.at_
  cases e with
  | normal => exact ⟨⟨ρ', hf', hq.1⟩, by rw [e1, e2]; exact hq.2⟩
  | _ => exact ⟨ρ', hf', hq⟩) : p := h
theorem Ou {p : Prop} (h : p := by
  have h1 : z.natAbs = y.natAbs * 2 ^ j := by rw [← hyz, Ud, UJ]; rfl
  have h2 : y.natAbs * 1 ≤ y.natAbs * 2 ^ j := SX _ (SV Sd);have h3 : bu y.natAbs ≤ 8 * a.size := dt Sd;rw [lj];omega) : p := h
theorem MN {p : Prop} (h : p := by
  refine aa (cT (sr (aI (aa (au (aG (bQ (aG (aG (bQ (aG ?_)))))))))));refine da ?_;exact ⟨by rw [hc], hh.below⟩) : p := h
theorem PE {p : Prop} (h : p := by
  rw [Td, Vg, S3] at hh;refine ah (sr (mI (mL (aK ?_))));refine a6 (aa (cF (aV (aE (aE (bo (ai (sr (mL (aL (aa (au ?_))))))))))));refine da ?_;exact ⟨_, rfl, hh.at_ (i := 0) rfl, hh.below⟩) : p := h
theorem OE {p : Prop} (h : p := by
  refine bK hh 0 [_,_] ?_;intro ws hh;replace hh : Hp _ (.blk _ _ [_, _] _ :: _) _ := hh;refine aI (aa (au (aG ?_)));refine yJ ?_;exact ⟨by rw [hE2]; rfl, hh.below⟩) : p := h
theorem NV {p : Prop} (h : p := by
  have hr0 : rest = [] := TW Sd;subst hr0;refine sr ?_;refine a6 (aa (ah (cF (aV (aE (aE (bo ?_)))))));refine Jc (by first | exact .inr rfl | exact .inl rfl) rfl  ?_;rw [S3, gU, S3] at *;rw [← heq];exact ⟨rfl, hh⟩) : p := h
theorem N5 {p : Prop} (h : p := by
  rw [hu];refine bK hh 1 [_,_] ?_;intro ws hh;replace hh : Hp _ (_ :: .blk _ _ [_, _] _ :: _) _ := hh;refine aa (au ?_);refine Ck ?_;rw [Su Sd] at hS2;rw [hS2];exact ⟨rfl, hh.below⟩) : p := h
theorem EF {p : Prop} (h : p := by
  refine aS (aa (au ?_));refine da ?_;exact ⟨rfl, hh.below⟩) : p := h
theorem Ea {p : Prop} (h : p := by
  refine da ?_;exact ⟨_, rfl, fun h => (by cases h), hh.below⟩) : p := h
theorem MI {p : Prop} (h : p := by
  rw [hds, Ui, Tq];refine ⟨(some d, i), ?_, rfl⟩;rw [List.mem_zipIdx_iff_getElem?];rw [St, S8 hi];simp only [T5, hd]) : p := h
theorem O8 {p : Prop} (h : p := by
  have h16 : ¬ 2 ^ 24 < len * sz := Sd;have hf' := wb _ _ _ hf;rw [← sc, hzl] at hf';have hzs : zc.toArray.size = sz := by simpa using hzl
  have hp' := Cv parts hp;simp only [execOp, hp', Instr.buildSlice, Sem.run_bind, run_underlying ht, Result.andThen_ok, eP hte, gt_iff_lt, Si h16, Si h0, hz, hzc, Sem.run_pure, hzs, hf'];simp [newRow]) : p := h
theorem zh {p : Prop} (h : p := by
  refine aI (aa (au ?_));refine da ?_;exact ⟨rfl, hh.below⟩) : p := h
theorem PH {p : Prop} (h : p := by
  rw [h.1] at this;refine this.mono fun r w' ⟨g, g2, o1, o2, hr, hh⟩ => ?_;obtain ⟨A1, a1, B1, b1, rfl⟩ := wc o1 h.2.2.2.1 h.2.1 (hh.dV (Sp (i := 3) rfl) (Sp (i := 2) rfl));obtain ⟨A2, a2, B2, b2, rfl⟩ := wc o2 h.2.2.2.2 h.2.2.1 (hh.dV (Sp (i := 0) rfl) (Sp (i := 1) rfl));exact ⟨A1, a1, B1, b1, A2, a2, B2, b2, hr, hh⟩) : p := h
theorem MQ {p : Prop} (h : p := by
  refine da ?_;exact ⟨_, _, rfl, hh.at_ (i := 0) rfl, hh.below⟩) : p := h
theorem NI {p : Prop} (h : p := by
  refine sr (aL (aa (ah (sr (mL ?_)))));refine rA bq.out rfl rfl Se ?_;refine aa (cT (sr (aL (aa (au (aG ?_))))));refine da ?_;exact ⟨_, _, rfl, World.ownsRow_nil _ _ _ _, hh.below⟩) : p := h
theorem Ng {p : Prop} (h : p := by
  have p1 := hpre i d hi h1;have p2 := hpre j d hj h2;have e1 := ((lM (ρ := ρ) (fun i => .int .i64 i) ds d hnd).1 i p1).symm.trans ((lM (ρ := ρ) (fun i => .int .i64 i) ds d hnd).1 j p2);injection e1 with _ e1
  omega) : p := h
theorem OK {p : Prop} (h : p := by
  refine sr ?_;refine mq ?_;refine cu hh 0 [_,_,_] ?_;refine bK hh 1 [_,_,_] ?_;intro ws hh;replace hh : Hp _ (_ :: .blk _ _ [_, _, _] _ :: _) _ := hh;refine aa (au ?_);refine II (dy rfl (dz (vs := [_, _, _]) aP.out (hh.bH (i := 1) (n := 3) rfl rfl) rfl) fq) ?_;rw [Su Sd] at hS2;rw [hS2];exact ⟨rfl, hh.below⟩) : p := h
theorem OD {p : Prop} (h : p := by
  refine aa (cF (aV (aE (aE (bo (ai (ah (sr (mI ?_)))))))));refine cX (aa (cT (sr ?_)));refine gg [_,_] (mI ?_);refine bK hh 2 [_,_] ?_;intro ws hh;replace hh : Hp _ (_ :: _ :: .blk _ _ [_, _] _ :: _) _ := hh;refine aI (aa (au (aG ?_)));refine sj ?_;exact ⟨PX.nil, gh.err he0, rfl, (hh.sub (TN _)).EU⟩) : p := h
theorem vV {p : Prop} (h : p := by
  refine aB (aa (au ?_));refine da ?_;exact ⟨rfl, hh.below⟩) : p := h
theorem Nf {p : Prop} (h : p := by
  refine bK hh 1 [_,_,_] ?_;intro ws hh;replace hh : Hp _ (_ :: .blk _ _ [_, _, _] _ :: _) _ := hh;refine aa (au ?_);refine II (dy rfl (dz (vs := [_, _, _]) aP.out (hh.bH (i := 1) (n := 3) rfl rfl) rfl) fq) ?_;exact ⟨rfl, hh.below⟩) : p := h
theorem N3 {p : Prop} (h : p := by
  simp only [bM];rw [← htake];have h5 : o + vs.length ≤ m * sz := Sd;have h6 : m * sz ≤ cur.toList.length := by rw [← hcl, hcur]; exact hle
  rw [List.take_take, Tp Sd, List.drop_take, S5, S5, List.take_append, List.take_append];simp only [SP, Tp (show o ≤ cur.toList.length by omega)];rw [Su (l := cur.toList.take o) (by simp; omega), Su (l := vs) Sd];congr 2;congr 1;omega) : p := h
theorem E6 {p : Prop} (h : p := by
  exact Sh) : p := h
theorem Nj {p : Prop} (h : p := by
  refine bK hh 0 [_,_,_,_,_,_] ?_;intro ws hh;replace hh : Hp _ (.blk _ _ [_, _, _, _, _, _] _ :: _) _ := hh;refine aa (au ?_);exact LY) : p := h
theorem Mb {p : Prop} (h : p := by
  rw [Su Sd] at hall;refine sr ?_;refine Cx ?_;refine da ?_;exact ⟨_, rfl, ⟨fun h => absurd h Se, fun h => by rw [hall] at h; cases h⟩, hh.below⟩) : p := h
theorem I1 {p : Prop} (h : p := by
  refine sr ?_;refine H7 ?_;refine da ?_;exact ⟨_, _, rfl, hh.at_ (i := 0) rfl, hh.below⟩) : p := h
theorem Oi {p : Prop} (h : p := by
  intro L a w hI hc;have hall : ∀ i, i < l.length → L.getD i false = true := fun i hi => by
   exact Lj
  have hmn : l.length ≤ 0 + m := by
   rcases S6 m l.length with h | h
   ·have h1 := hall m h;rw [hI.tl m (So _)] at h1
    cases h1
   ·omega
  exact full L a w 0 hI (fun i hi => hall i Sd) hmn) : p := h
theorem NU {p : Prop} (h : p := by
  refine aa (cT (sr ?_));refine gg [_,_] ?_;refine gg [_,_] ?_;refine bK hh 1 [_,_] ?_;intro ws hh;replace hh : Hp _ (_ :: .blk _ _ [_, _] _ :: _) _ := hh;refine bK hh 0 [_,_] ?_;intro ws hh;replace hh : Hp _ (.blk _ _ [_, _] _ :: _) _ := hh;refine aI (aa (au (aG ?_)));refine Gs ?_;exact ⟨hh.below, .inl ⟨by rw [hE]; decide, by rw [hE]; rfl⟩⟩) : p := h
theorem NQ {p : Prop} (h : p := by
  refine ⟨hJ.bl, fun x hx => ?_, ?_⟩
  ·rcases SH.1 hx with rfl | hx
   ·exact o1
   ·obtain rfl := SN.1 hx;exact o2
  ·rw [Ux];split
   ·exact K6
   ·rename_i b1 hb1;refine Uk.2 ⟨fun hm => ?_, ?_⟩
    ·obtain ⟨y, hy, hyb⟩ := Tq.1 hm;obtain rfl := SN.1 hy;exact JK o1 o2 h12 b1 hb1 hyb
    ·exact K6) : p := h
theorem O3 {p : Prop} (h : p := by
  have hdm : j / sz * sz + j % sz = j := by rw [SS]; exact TY j sz
  have hmod : j % sz < sz := SO _ h0;have hj : j / sz < l.length := by
   have := (SC.1 hu).1;rw [dZ hf] at this;exact Nat.div_lt_of_lt_mul (by rw [SS]; exact this)
  obtain ⟨x, hx⟩ := av hj;have h6 := tQ hf hx;have h7 : (f x)[j % sz]? = some u := by
   rw [← h6, Ul, Sj hmod, Uo, hdm];exact hu
  have h8 := (World.cells?_some (hp _ _ hx).1).2.2 (j % sz) hmod;rw [h7, oH, hdm] at h8;exact h8) : p := h
theorem Pz {p : Prop} (h : p := by
  have hJ0 : J ({ w with drawn := w.drawn + 1 } : World) := hJ w _ h0 ⟨rfl, rfl, rfl, So _, fun _ _ => rfl⟩;have hr0 : ∀ i, (Array.replicate l.toArray.size false).getD i false = false := fun i => by
   rw [Tn, Array.getElem?_replicate]; split <;> rfl
  refine key _ _ _ _ ⟨hf.nd, hf.sz, hJ0, by simp, fun k o _ hk => ?_, fun k _ => hr0 k, fun i d _ hi => ?_, fun s _ => hf.at_ s, fun i _ hi => ?_, fun i _ j _ _ hi => ?_⟩ ?_
  ·rw [hr0] at hk; cases hk
  ·rw [hr0] at hi; cases hi
  ·rw [hr0] at hi; cases hi
  ·rw [hr0] at hi; cases hi
  ·simp [List.countP_replicate]) : p := h
theorem OH {p : Prop} (h : p := by
  refine bK hh 2 [_,_] ?_;intro ws hh;replace hh : Hp _ (_ :: _ :: .blk _ _ [_, _] _ :: _) _ := hh;refine aI (aa (au ?_));refine sj ?_;exact CX) : p := h
theorem Np {p : Prop} (h : p := by
  refine fR (hc _ hh.below) ak.out rfl rfl Se ?_;rintro e_ w16 ⟨rfl, hb_⟩;refine ⟨_, rfl, ?_⟩;replace hh := hh.ext hb_;refine aa (cT (sr (mI (aI (aa (au (bQ (aG (aG (bQ (aG ?_)))))))))));refine da ?_;exact ⟨_, rfl, ⟨fun _ => Ub.2 ⟨z, Sp hz, gz⟩, fun _ => by omega⟩, hh.below⟩) : p := h
theorem Mo {p : Prop} (h : p := by
  rintro e_ w7 ⟨v_, rfl, hv_, hb_⟩;refine ⟨_, rfl, ?_⟩;replace hh := hh.ext hb_
  cases ga : l.any p with
  | true =>
   have h0 := hv_.2 ga;exact Dh
  | false =>
   have h0 : ¬ 0 ≤ v_ := fun h => by rw [hv_.1 h] at ga; cases ga
   exact Dh) : p := h
theorem O6 {p : Prop} (h : p := by
  unfold ByteArray.toList;have : ∀ (n i : Nat) (r : List UInt8), s.size - i = n → ByteArray.toList.loop s i r = r.reverse ++ s.data.toList.drop i := by
   intro n
   induction n with
   | zero =>
    intro i r h;rw [ByteArray.toList.loop, Si Sd, Uf (by rw [Array.length_toList]; show s.size ≤ i; omega)];simp
   | succ n ih =>
    intro i r h;have hi : i < s.size := Sd;rw [ByteArray.toList.loop, Sj hi, ih (i + 1) _ Sd];have hi2 : i < s.data.toList.length := by rw [Array.length_toList]; exact hi
    rw [T4 hi2];have : s.get! i = s.data.toList[i] := by
     show s.data[i]! = _;rw [getElem!_pos s.data i (by simpa using hi2)];simp
    simp [this]
  simpa using this (s.size - 0) 0 [] rfl) : p := h
theorem MW {p : Prop} (h : p := by
  simp only [CI]
  rcases S6 i l.length with hi | hi
  ·rw [Tn, Array.getElem?_append_left (by simpa using hi)];simp [TC]
  ·rw [Tn, Array.getElem?_append_right (by simpa using hi)];simp only [TC, Sw hi, Option.getD_none, Array.getElem?_replicate];split <;> rfl) : p := h
theorem OT {p : Prop} (h : p := by
  refine eN ?_;refine lL 3 Se Sf Se Sf Sf ?_;refine bK hh 3 [_,_] ?_;intro ws hh;replace hh : Hp _ (_ :: _ :: _ :: .blk _ _ [_, _] _ :: _) _ := hh;refine aB (aa (au ?_));refine N9 (dy rfl (dz (vs := [_, _]) aP.out (hh.bH (i := 4) (n := 2) rfl rfl) rfl) (dy rfl (dz (vs := [_, _]) aP.out (hh.bH (i := 3) (n := 2) rfl rfl) rfl) (jq (mj rfl) fq))) ?_;exact ⟨rfl, hh.below⟩) : p := h
theorem MO {p : Prop} (h : p := by
  refine CF ?_;exact CX) : p := h
theorem Mh {p : Prop} (h : p := by
  rw [hds, Ui, Tq] at hp;obtain ⟨⟨x, k⟩, hx, hxe⟩ := hp;rw [List.mem_zipIdx_iff_getElem?] at hx
  cases x with
  | none => simp at hxe
  | some d' =>
   simp only [T5, T3, Prod.mk.injEq] at hxe;obtain ⟨rfl, rfl⟩ := hxe;rw [St] at hx
   cases hr : (List.range m)[k]? with
   | none => rw [hr] at hx; simp at hx
   | some y =>
    have hkm : k < m := by
     have := (SC.1 hr).1;simpa using this
    rw [S8 hkm] at hx;simp only [T5, T3] at hx;exact ⟨hkm, hx⟩) : p := h
theorem H4 {p : Prop} (h : p := by
  refine bK hh 1 [_,_] ?_;intro ws hh;replace hh : Hp _ (_ :: .blk _ _ [_, _] _ :: _) _ := hh;refine aa (au ?_);exact K8) : p := h
theorem Pm {p : Prop} (h : p := by
  exfalso;have hmin : ∀ k, (∃ i, i < k ∧ i < m ∧ L.getD i false = false) → ∃ i, i < m ∧ L.getD i false = false ∧ ∀ j, j < i → L.getD j false = true := by
   intro k
   induction k with
   | zero => rintro ⟨i, h, _⟩; omega
   | succ k ihk =>
    rintro ⟨i, h1, h2, h3⟩;by_cases hex : ∃ i, i < k ∧ i < m ∧ L.getD i false = false
    ·exact ihk hex
    ·exact K1
  obtain ⟨i0, h1, h2⟩ := hsome;obtain ⟨i, hi, hu, hlow⟩ := hmin (i0 + 1) ⟨i0, Sd, h1, h2⟩;exact Lf) : p := h
theorem Kr {p : Prop} (h : p := by
  refine aI (aa (sr (mI ?_)));refine cX (aa (cT (sr ?_)));refine gg [_,_] (mI ?_);refine bK hh 0 [_,_] ?_;intro ws hh;replace hh : Hp _ (.blk _ _ [_, _] _ :: _) _ := hh;refine aI (aa (au (aG ?_)));refine yJ ?_;exact ⟨PX.nil, gh.err h0, rfl, (hh.sub (TN _)).EU⟩) : p := h
theorem Nc {p : Prop} (h : p := by
  unfold Region.ready;rw [TD, S1, hnn];constructor
  ·rintro ⟨h1, h2⟩;have ho : l.toArray[i]? = some l[i] := by simp [h1]
   rw [ho] at h2;simp only [T5, TM, SE, Vr] at h2;refine ⟨h1, h2.1, l[i], ho, fun e he hb => ?_⟩;have := Vt.1 h2.2 e he;simpa [hb] using this
  ·rintro ⟨h1, h2, o, ho, h3⟩;refine ⟨h1, ?_⟩;rw [ho];simp only [T5, TM, SE, Vr];refine ⟨h2, Vt.2 fun e he => ?_⟩
   cases hb : Region.binds .any e with
   | false => simp
   | true => simpa [hb] using h3 e he hb) : p := h
theorem Rp {p : Prop} (h : p := by
  exact LM) : p := h
theorem K7 {p : Prop} (h : p := by
  refine bK hh 0 [_,_] ?_;intro ws hh;replace hh : Hp _ (.blk _ _ [_, _] _ :: _) _ := hh;refine aa (au ?_);exact LM) : p := h
theorem Lx {p : Prop} (h : p := by
  refine qM (c := cc) bq.out rfl rfl Sd hcc Se ?_;skip;refine yG ?_;refine a9 (aI (aa (au ?_)));refine da ?_;refine ⟨?_, Below.refl _ _⟩;congr 2;rw [hcv];omega) : p := h
theorem IP {p : Prop} (h : p := by
  refine bK hh 0 [_,_,_] ?_;intro ws hh;replace hh : Hp _ (.blk _ _ [_, _, _] _ :: _) _ := hh;refine aa (au ?_);exact K4) : p := h
theorem QO {p : Prop} (h : p := by
  refine pK ?_;refine dS (dS (dS (dU (dU (dU (dU ?_))))));refine yO (i := 28) rfl (fun ρ1 w1 hj hR => (show ρ1 44 = undef from hR.2.2.1)) ?_;refine dU (dU (dU (dU ?_)));refine aR ?_;intro f W hJ hV _;have hb_8 := hJ.bl;obtain ⟨v53, v52, v51, v50, v49, v48, v47, v46, v45, v44, v43, v42, v41, v40, v39, v38, v37, v36, v35, v34, v33, v32, v31, v30, v29, v28, v27, v26, v25, v24, v23, v22, v21, _⟩ := hV;replace hh := hJ.hp;refine BT ?_;dsimp only [ck];clear hJ;refine gV (gS ?_);refine fV ?_;refine BW ?_;refine da ?_;exact ⟨rfl, hh.below⟩) : p := h
theorem QS {p : Prop} (h : p := by
  intro w40 hh;rw [eR];refine a6 (aa (cF (aq (ai (ah ?_)))));refine pw hh mixed fun w_ hj_ => ?_;replace hh := hj_.hp;clear hj_;refine s8 (i := 0) (i2 := 1) Sf rfl rfl ?_ ?_
  ·refine cu hh 1 [_,_] ?_;refine eN ?_;refine s8 (i := 1) (i2 := 2) Sf rfl rfl ?_ ?_
   ·refine cu hh 0 [_,_] ?_;exact LW
   ·refine bK hh 3 [_,_] ?_;intro ws hh;replace hh : Hp _ (_ :: _ :: _ :: .blk _ _ [_, _] _ :: _) _ := hh;refine eN ?_;refine fL (i := 1) Sf rfl ?_;refine cu hh 0 [_,_] ?_;exact Ll
  ·refine cu hh 0 [_,_] ?_;refine eN ?_;refine fL (i := 0) Sf rfl ?_;refine cu hh 1 [_,_] ?_;exact LW) : p := h
theorem KL {p : Prop} (h : p := by
  refine gg [_,_] ?_;refine bK hh 0 [_,_] ?_;intro ws hh;replace hh : Hp _ (.blk _ _ [_, _] _ :: _) _ := hh;refine aI (aa (au (aG ?_)));refine yJ ?_;exact ⟨PX.nil, gh.err Se, rfl, (hh.sub (TN _)).EU⟩) : p := h
theorem Qt {p : Prop} (h : p := by
  rw [hs];refine mI ?_;refine gg [_,_,_,_,_] ?_;refine bJ hh ?_;intro b6 w6 hh;refine bK hh 0 [_,_,_,_,_] ?_;intro ws hh;replace hh : Hp _ (.blk _ _ [_, _, _, _, _] _ :: _) _ := hh;refine aa (ah ?_);refine aU 9 [[(6, none)], [(30, some 0)], [(2, none)], [(31, some 1), (32, some 2)], [(6, none)], [(34, some 4)], [(3, none)], [(35, some 5), (36, some 6)], [(6, none)]] [(8, 38), (7, 37), (6, 36), (5, 35), (4, 34), (3, 33), (2, 32), (1, 31), (0, 30)] hh mixed Sf ?_;refine ek ?_;refine gH 0 ?_;refine eX 3 [_,_,_] ?_;refine dC (fun _ hj => hcx _ (hT.hp hj.hp)) ?_;refine ek ?_;refine gH 0 ?_;refine eX 2 [_,_,_] ?_;refine dC (fun _ hj => hcy _ (hT.hp hj.hp)) ?_;refine ek ?_;refine aR ?_;intro f W hJ hV;have hb_8 := hJ.bl;obtain ⟨v38, v37, v36, v35, v34, v33, v32, v31, v30, _⟩ := hV;replace hh := hJ.hp;refine aX (bp (ae v38 (ae v37 (ae v36 (ae v35 (ae v34 (ae v33 (ae v32 (ae v31 (ae v30 aW)))))))))) ?_;dsimp only [ck];clear hJ;refine bK hh 0 [_,_] ?_;intro ws hh;replace hh : Hp _ (.blk _ _ [_, _, _, _, _] _ :: _) _ := hh;refine bF ?_;refine bK hh 0 [_,_] ?_;intro ws hh;replace hh : Hp _ (.blk _ _ [_, _, _, _, _] _ :: _) _ := hh;refine aa (sr ?_);refine cu hh 0 [_,_,_,_,_] ?_
  refine bK hh 1 [_,_,_,_,_] ?_;intro ws hh;replace hh : Hp _ (_ :: .blk _ _ [_, _, _, _, _] _ :: _) _ := hh;refine aa (au ?_);refine II (dy rfl (dz (vs := [_, _, _, _, _]) aP.out (hh.bH (i := 1) (n := 5) rfl rfl) rfl) fq) ?_;exact ⟨rfl, hh.below⟩) : p := h
theorem eB {p : Prop} (h : p := by
  exact Sg) : p := h
section
variable {H : Type} {enc : TypeId × Value → H} {P : Program}
theorem ng (hl : laidOutB P = true) {W W' : World} (hb : Below W.heap.size W W') (sp : Nat → Bool) : ∀ (ts : List TypeId) (vs : List Value) (ds : List (DataW H)) (ps : List MemPlace), (∀ t ∈ ts, P.readableRec t = true ∧ t < P.types.size) →
  (∀ x ∈ ps, x.block < W.heap.size) → (∀ x ∈ ps, sp x.block = true) → DataW.TrodAll enc P W 0 (fun _ => true) true ts vs ds ps → DataW.TrodAll enc P W' 0 sp true ts vs ds ps
 | [], vs, ds, ps, _, _, _, h => by
  obtain ⟨rfl, rfl, rfl⟩ := trodAll_nil h;exact trodAll_mk0
 | t :: ts, vs, ds, ps, hr, hlt, hsp, h => by
  obtain ⟨v, vs', d, ds', p, q, rfl, rfl, rfl, h0, r0⟩ := trodAll_cons h;refine trodAll_cons_mk (WideElems.Trod_stays hl (hr t Sq).1 (hr t Sq).2 h0 (fun x hx => hb.same (hlt x (Uh _ hx))) (fun x hx => hsp x (Uh _ hx)))
   (ng hl hb sp ts vs' ds' q (fun t ht => hr t (SA _ ht)) (fun x hx => hlt x (TG _ hx)) (fun x hx => hsp x (TG _ hx)) r0)
theorem FB {f : Func} {s : ChangeSpec} {W W' : World} {args : Array Value} {ds : List (DataW H)} {before : List MemPlace} {tb : TypeId}
  (hW : DataW.Whole enc P f.params.toList s.vars false W args.toList ds [] before) (hv : s.vars = []) (hl : laidOutB P = true) (hr : ∀ t ∈ f.params.toList, P.readableRec t = true ∧ t < P.types.size)
  (hres : f.resultTypes = #[tb]) (hbool : P.underlying tb = some .bool) (hs1 : (s.fn H (ds ++ [])).results = [.lit (.bool true)]) (hs2 : (s.fn H (ds ++ [])).args = ds) (hs3 : (s.fn H (ds ++ [])).vars = []) (hb : Below W.heap.size W W') :
  s.post enc P f false true false false W args (.bool true) W' := by
 have hlt : ∀ p ∈ before, p.block < W.heap.size := fun p hp => by simpa using hW.lt p hp
 have hold : ∀ p ∈ before, (fun b => decide (b < W.heap.size)) p.block = true := fun p hp => by simpa using hlt p hp
 have hW0 := hW;obtain ⟨pa, pv, hA, hV, hps, hz, hn⟩ := hW0;rw [hv] at hV;obtain ⟨_, rfl⟩ := trodVars_none hV;have hbp : before = pa := by rw [hps, S3]
 subst hbp;have hA' : ∀ sp : Nat → Bool, (∀ p ∈ before, sp p.block = true) → DataW.TrodAll enc P W' 0 sp true f.params.toList args.toList (s.fn H (ds ++ [])).args before := fun sp hsp => by
  rw [hs2];exact ng hl hb sp _ _ _ _ hr hlt hsp hA
 have hV' : ∀ sp : Nat → Bool, DataW.TrodVars enc P W' sp s.vars (s.fn H (ds ++ [])).vars [] := fun sp => by
  rw [hv, hs3]; rfl
 have hR : ∀ (b : Nat) (sp : Nat → Bool) (hd : Bool), DataW.TrodAll enc P W' b sp hd f.resultTypes.toList ((Value.bool true).resultList f.resultTypes.size) (s.fn H (ds ++ [])).results [] := fun b sp hd => by
  rw [hres, hs1];exact trodAll_cons_mk (shut_bool hbool _) trodAll_mk0
 refine ⟨ds, [], before, [], before, [], hW, hR _ _ _, hA' _ hold, hV' _, World.keptBut_mono (fun p hp => ⟨hp, ?_⟩) (hb.frame (· ∈ before)), fun _ => ?_⟩
 ·exact .inr (.inl hp)
 ·refine ⟨ok_one hres rfl (okWide_bool_mk hbool _), _, _, ([] ++ before) ++ [], ⟨[] ++ before, [], trodAll_append (hA' _ (fun _ _ => rfl)) (hR _ _ _), hV' _, rfl, ?_, ?_⟩, ?_⟩
  ·intro b off hp;have hp2 := hz b off (by simpa using hp);rw [hb.frozen (hlt _ (by simpa using hp))];exact hp2
  ·intro ha
   cases ha
  ·intro p hp _;simpa using hp
end
open Go.RowKit
abbrev Rf := Nat → Value
def cx (ρ : Rf) (d : Nat) (v : Value) : Rf := fun i => bif Nat.beq i d then v else ρ i
def ev (ρ : Rf) : Operand → Value
 | .tmp t => ρ t
 | .const v => v
 | .global g => .pointer (some ⟨g, 0, none⟩)
 | .func f => .func (.func f) #[] #[]
structure eG (N : Nat) (D : List Deferred) (a : Act) (ρ : Rf) : Prop where
 nd : a.defers = D
 sz : a.tmps.size = N
 at_ : ∀ i, a.tmps.getD i undef = ρ i
abbrev Fits (N : Nat) (a : Act) (ρ : Rf) : Prop := eG N [] a ρ
theorem eG.eval {N : Nat} {D : List Deferred} {a : Act} {ρ : Rf} (h : eG N D a ρ) : a.eval = ev ρ := by
 funext x
 cases x with
 | tmp t => exact h.at_ t
 | _ => rfl
theorem sG (ρ : Rf) (d : Nat) (v : Value) : cx ρ d v d = v := by simp [cx]
theorem iH (ρ : Rf) {d i : Nat} (h : i ≠ d) (v : Value) : cx ρ d v i = ρ i := by
 have hb : Nat.beq i d = false := by
  cases hb : Nat.beq i d
  ·rfl
  ·exact absurd (Nat.eq_of_beq_eq_true hb) h
 simp only [cx, hb, cond_false]
theorem eG.put {N : Nat} {D : List Deferred} {a : Act} {ρ : Rf} (h : eG N D a ρ) {d : Nat} (hd : d < N) (v : Value) : eG N D (a.put (some d) v) (cx ρ d v) := by
 refine ⟨h.nd, by simp [Act.put, h.sz], fun i => ?_⟩;by_cases hi : i = d
 ·subst hi;rw [sG];simp [Act.put, h.sz, hd]
 ·rw [iH ρ hi, ← h.at_ i];have : d ≠ i := fun e => hi e.symm;simp [Act.put, Array.getElem?_setIfInBounds_ne this]
abbrev Kq := Exit → Rf → World → Prop
def fp (N : Nat) (D : List Deferred) (Q : Kq) : Exit → Act → World → Prop := fun e a w => ∃ ρ, eG N D a ρ ∧ Q e ρ w
abbrev lift (N : Nat) (Q : Kq) : Exit → Act → World → Prop := fp N [] Q
structure Mode where
 round : Option Nat := none
 D : List Deferred := []
 any : Bool := false
abbrev Mode.plain : Mode := {}
def FW (ro : Option Nat) : Fence := { Fence.wide with round := ro }
structure WC (ro : Mode) (P : Program) (N : Nat) (c : Code) (Q : Kq) (ρ : Rf) (w : World) : Prop where
 lT : ro.any = false → ∀ a, eG N ro.D a ρ → c.wp P (fp N ro.D Q) a w
 jX : ∀ a, eG N ro.D a ρ → ∀ n, c.wpIn (FW ro.round) n P (fp N ro.D Q) a w
structure WL (ro : Mode) (P : Program) (N : Nat) (ops : Array Oper) (Q : Kq) (l : List Oper) (ρ : Rf) (w : World) : Prop where
 lT : ro.any = false → ∀ a, eG N ro.D a ρ → wpList P ops (fp N ro.D Q) l a w
 jX : ∀ a, eG N ro.D a ρ → ∀ n, wpListIn (FW ro.round) n P ops (fp N ro.D Q) l a w
def dR (next : Rf → World → Prop) (Q : Kq) : Kq
 | .normal, ρ, w => next ρ w
 | e, ρ, w => Q e ρ w
def pZ (id : Nat) (Q : Kq) : Kq
 | .exit id', ρ, w => if id' = id then Q .normal ρ w else Q (.exit id') ρ w
 | e, ρ, w => Q e ρ w
section code
variable {ro : Mode} {P : Program} {N : Nat} {Q : Kq} {ρ : Rf} {w : World}
theorem WC.n9 {D : List Deferred} {c : Code} (h : ∀ a, eG N D a ρ → c.wp P (fp N D Q) a w) : WC ⟨none, D, false⟩ P N c Q ρ w := ⟨fun _ => h, fun a hf _ => wpIn_wide.2 (h a hf)⟩
theorem WC.out {D : List Deferred} {c : Code} (h : WC ⟨none, D, false⟩ P N c Q ρ w) : ∀ a, eG N D a ρ → c.wp P (fp N D Q) a w := h.lT rfl
theorem Ik {r : Option Nat} {D : List Deferred} {c : Code} (h : WC ⟨r, D, false⟩ P N c Q ρ w) : WC ⟨r, D, true⟩ P N c Q ρ w := ⟨fun h => (by cases h), h.jX⟩
theorem WL.out {D : List Deferred} {ops : Array Oper} {l : List Oper} (h : WL ⟨none, D, false⟩ P N ops Q l ρ w) : ∀ a, eG N D a ρ → wpList P ops (fp N D Q) l a w := h.lT rfl
theorem uO {D : List Deferred} {Q Q' : Kq} (h : ∀ e ρ w, Q e ρ w → Q' e ρ w) (e : Exit) (a : Act) (w : World) : fp N D Q e a w → fp N D Q' e a w :=
 fun ⟨ρ, hf, hq⟩ => ⟨ρ, hf, h _ _ _ hq⟩
theorem WC.mono {c : Code} {Q' : Kq} (h : WC ro P N c Q ρ w) (hq : ∀ e ρ w, Q e ρ w → Q' e ρ w) : WC ro P N c Q' ρ w :=
 ⟨fun hm a hf => wp_mono (h.lT hm a hf) (uO hq), fun a hf n => wpIn_mono (h.jX a hf n) (uO hq)⟩
theorem ah {x y : Code} (h : WC ro P N x (dR (fun ρ w => WC ro P N y Q ρ w) Q) ρ w) : WC ro P N (.seq x y) Q ρ w :=
 ⟨fun hm a hf => wp_seq (wp_mono (h.lT hm a hf) fun e a' w' ⟨ρ', hf', hq⟩ => by
  cases e with
  | normal => exact hq.lT hm a' hf'
  | _ => exact ⟨ρ', hf', hq⟩),
 fun a hf n => wpIn_seq (wpIn_mono (h.jX a hf n) fun e a' w' ⟨ρ', hf', hq⟩ => by
  cases e with
  | normal => exact hq.jX a' hf' n
  | _ => exact ⟨ρ', hf', hq⟩)⟩
theorem aq (h : Q .normal ρ w) : WC ro P N .skip Q ρ w := ⟨fun _ _ hf => wp_skip ⟨ρ, hf, h⟩, fun _ hf _ => wpIn_skip ⟨ρ, hf, h⟩⟩
theorem au (h : Q .ret ρ w) : WC ro P N .ret Q ρ w := ⟨fun _ _ hf => wp_ret ⟨ρ, hf, h⟩, fun _ hf _ => wpIn_ret ⟨ρ, hf, h⟩⟩
theorem aV {id : Nat} (h : Q (.exit id) ρ w) : WC ro P N (.exit id) Q ρ w := ⟨fun _ _ hf => wp_exit ⟨ρ, hf, h⟩, fun _ hf _ => wpIn_exit ⟨ρ, hf, h⟩⟩
theorem ao {id : Nat} {c : Code} (h : WC ro P N c (pZ id Q) ρ w) : WC ro P N (.block id c) Q ρ w :=
 have key : ∀ (D : List Deferred) e a' w', fp N D (pZ id Q) e a' w' → Exit.inBlock id (fp N D Q) e a' w' := fun D e a' w' ⟨ρ', hf', hq⟩ => by
  cases e with
  | exit id' =>
   by_cases hid : id' = id
   ·simp only [pZ, hid, if_true] at hq;simp only [Exit.inBlock, hid, if_true];exact ⟨ρ', hf', hq⟩
   ·simp only [pZ, hid, if_false] at hq;simp only [Exit.inBlock, hid, if_false];exact ⟨ρ', hf', hq⟩
  | _ => exact ⟨ρ', hf', hq⟩
 ⟨fun hm a hf => wp_block (wp_mono (h.lT hm a hf) (key _)), fun a hf n => wpIn_block (wpIn_mono (h.jX a hf n) (key _))⟩
theorem DW {c : Operand} {x y : Code} (hc : ev ρ c = .bool true) (h : WC ro P N x Q ρ w) : WC ro P N (.cond c x y) Q ρ w :=
 ⟨fun hm a hf => wp_cond_true (by rw [hf.eval]; exact hc) (h.lT hm a hf), fun a hf n => wpIn_cond_true (by rw [hf.eval]; exact hc) (h.jX a hf n)⟩
theorem EP {c : Operand} {x y : Code} (hc : ev ρ c = .bool false) (h : WC ro P N y Q ρ w) : WC ro P N (.cond c x y) Q ρ w :=
 ⟨fun hm a hf => wp_cond_false (by rw [hf.eval]; exact hc) (h.lT hm a hf), fun a hf n => wpIn_cond_false (by rw [hf.eval]; exact hc) (h.jX a hf n)⟩
theorem al {id : Nat} {l : List Oper} (h : WL ro P N l.toArray Q l ρ w) : WC ro P N (.region id l.toArray false) Q ρ w :=
 ⟨fun hm a hf => wp_region_lit (h.lT hm a hf), fun a hf n => wpIn_region_lit (h.jX a hf n)⟩
theorem ai {next : Rf → World → Prop} (h : next ρ w) : dR next Q .normal ρ w := h
theorem aG {next : Rf → World → Prop} (h : Q .ret ρ w) : dR next Q .ret ρ w := h
theorem aE {next : Rf → World → Prop} {id : Nat} (h : Q (.exit id) ρ w) : dR next Q (.exit id) ρ w := h
theorem bg {id : Nat} (h : Q .normal ρ w) : pZ id Q .normal ρ w := h
theorem bQ {id : Nat} (h : Q .ret ρ w) : pZ id Q .ret ρ w := h
theorem bo {id : Nat} (h : Q .normal ρ w) : pZ id Q (.exit id) ρ w := by simpa [pZ] using h
def mask (mods : List Nat) (ρ' ρ : Rf) : Rf := fun i => bif mods.contains i then ρ' i else ρ i
def jo (mods : List Nat) (ρ1 ρ : Rf) : Prop := ∀ i, mods.contains i = false → ρ1 i = ρ i
theorem eD (mods : List Nat) (ρ' ρ : Rf) : jo mods (mask mods ρ' ρ) ρ := fun i hi => by simp only [mask, hi, cond_false]
theorem fu {mods : List Nat} {ρ1 ρ : Rf} {d : Nat} {v : Value} (hd : mods.contains d = true) (h : jo mods ρ1 ρ) : jo mods (cx ρ1 d v) ρ := fun i hi => by
 rw [iH ρ1 (fun e => by rw [e, hd] at hi; cases hi)];exact h i hi
theorem dQ {mods mods2 : List Nat} {ρ' ρ1 ρ : Rf} (hm : (mods2.all fun i => mods.contains i) = true) (h : jo mods ρ1 ρ) : jo mods (mask mods2 ρ' ρ1) ρ := fun i hi => by
 have h2 : mods2.contains i = false := by
  cases hc : mods2.contains i with
  | false => rfl
  | true =>
   have := SU.1 hm i (by simpa using hc);rw [this] at hi; cases hi
 simp only [mask, h2, cond_false];exact h i hi
theorem Sg {p : Prop} (h : p := by repeat (first | exact eD _ _ _ | refine fu rfl ?_ | refine dQ rfl ?_)) : p := h
theorem Sh {p : Prop} (h : p := by (repeat (first | exact eD _ _ _ | refine fu rfl ?_ | refine dQ rfl ?_)); exact fun _ _ => rfl) : p := h
theorem jC {mods : List Nat} {ρ1 ρ : Rf} (h : jo mods ρ1 ρ) : mask mods ρ1 ρ = ρ1 := by
 funext i;simp only [mask]
 cases hc : mods.contains i with
 | true => rfl
 | false => simpa using (h i hc).symm
theorem ja (ρ : Rf) (d : Nat) : cx ρ d (ρ d) = ρ := by
 funext i;by_cases h : i = d
 ·subst h; rw [sG]
 ·rw [iH ρ h]
theorem vS {c : Code} (I : Rf → World → Prop) (μ : Rf → World → Nat) (h0 : I ρ w)
  (round : ∀ ρ w, I ρ w → WC ro P N c (dR (fun ρ' w' => I ρ' w' ∧ μ ρ' w' < μ ρ w) Q) ρ w) : WC ro P N (.loop c) Q ρ w := by
 refine ⟨fun hm a hf => ?_, fun a hf n => ?_⟩
 ·refine wp_loop (fun a w => ∃ ρ, eG N ro.D a ρ ∧ I ρ w) (fun a w => μ (fun i => a.tmps.getD i undef) w) ⟨ρ, hf, h0⟩ ?_;rintro a w ⟨ρ, hf, hi⟩;refine wp_mono ((round ρ w hi).lT hm a hf) ?_;exact Oq
 ·refine wpIn_loop (fun a w => ∃ ρ, eG N ro.D a ρ ∧ I ρ w) (fun a w => μ (fun i => a.tmps.getD i undef) w) ⟨ρ, hf, h0⟩ ?_;rintro a w ⟨ρ, hf, hi⟩;refine wpIn_mono ((round ρ w hi).jX a hf n) ?_;exact Oq
theorem aN {c : Code} (mods : List Nat) (s0 : Nat) (I : Value → World → Prop) (μ : Value → World → Nat) (h0 : I (ρ s0) w)
  (round : ∀ ρ' v0 w', I v0 w' → WC ro P N c (dR (fun ρ2 w2 => I (ρ2 s0) w2 ∧ μ (ρ2 s0) w2 < μ v0 w' ∧ jo mods ρ2 ρ) Q) (cx (mask mods ρ' ρ) s0 v0) w') : WC ro P N (.loop c) Q ρ w :=
 vS (fun ρ1 w1 => I (ρ1 s0) w1 ∧ jo mods ρ1 ρ) (fun ρ1 w1 => μ (ρ1 s0) w1) ⟨h0, fun _ _ => rfl⟩ fun ρ1 w1 ⟨hi, ha⟩ => by
  have h := round ρ1 (ρ1 s0) w1 hi;rw [jC ha, ja] at h;exact h.mono fun e ρ2 w2 hq => by
   cases e with
   | normal => exact ⟨⟨hq.1, hq.2.2⟩, hq.2.1⟩
   | _ => exact hq
theorem bP {c : Code} (mods : List Nat) (s0 s1 : Nat) (I : Value → Value → World → Prop) (μ : Value → Value → World → Nat) (h0 : I (ρ s0) (ρ s1) w)
  (round : ∀ ρ' v0 v1 w', I v0 v1 w' → WC ro P N c (dR (fun ρ2 w2 => I (ρ2 s0) (ρ2 s1) w2 ∧ μ (ρ2 s0) (ρ2 s1) w2 < μ v0 v1 w' ∧ jo mods ρ2 ρ) Q) (cx (cx (mask mods ρ' ρ) s0 v0) s1 v1) w') : WC ro P N (.loop c) Q ρ w :=
 vS (fun ρ1 w1 => I (ρ1 s0) (ρ1 s1) w1 ∧ jo mods ρ1 ρ) (fun ρ1 w1 => μ (ρ1 s0) (ρ1 s1) w1) ⟨h0, fun _ _ => rfl⟩ fun ρ1 w1 ⟨hi, ha⟩ => by
  have h := round ρ1 (ρ1 s0) (ρ1 s1) w1 hi;rw [jC ha, ja, ja] at h;exact h.mono fun e ρ2 w2 hq => by
   cases e with
   | normal => exact ⟨⟨hq.1, hq.2.2⟩, hq.2.1⟩
   | _ => exact hq
theorem xK {c : Code} (mods : List Nat) (s0 s1 s2 : Nat) (I : Value → Value → Value → World → Prop) (μ : Value → Value → Value → World → Nat) (h0 : I (ρ s0) (ρ s1) (ρ s2) w)
  (round : ∀ ρ' v0 v1 v2 w', I v0 v1 v2 w' → WC ro P N c (dR (fun ρ2 w2 => I (ρ2 s0) (ρ2 s1) (ρ2 s2) w2 ∧ μ (ρ2 s0) (ρ2 s1) (ρ2 s2) w2 < μ v0 v1 v2 w' ∧ jo mods ρ2 ρ) Q) (cx (cx (cx (mask mods ρ' ρ) s0 v0) s1 v1) s2 v2) w') : WC ro P N (.loop c) Q ρ w :=
 vS (fun ρ1 w1 => I (ρ1 s0) (ρ1 s1) (ρ1 s2) w1 ∧ jo mods ρ1 ρ) (fun ρ1 w1 => μ (ρ1 s0) (ρ1 s1) (ρ1 s2) w1) ⟨h0, fun _ _ => rfl⟩ fun ρ1 w1 ⟨hi, ha⟩ => by
  have h := round ρ1 (ρ1 s0) (ρ1 s1) (ρ1 s2) w1 hi;rw [jC ha, ja, ja, ja] at h;exact h.mono fun e ρ2 w2 hq => by
   cases e with
   | normal => exact ⟨⟨hq.1, hq.2.2⟩, hq.2.1⟩
   | _ => exact hq
end code
inductive Ie (P : Program) (ρ : Rf) (w : World) : ResultVar → Value → Prop
 | tmp (t : Tmp) {v : Value} (h : ρ t = v) : Ie P ρ w (.tmp t) v
 | cell (p : Tmp) (t : TypeId) {a : Addr} {v : Value} (hp : ρ p = .pointer (some a)) (h : (loadVar t a).run P w = .ok v w) : Ie P ρ w (.cell p t) v
def gM (P : Program) (ρ : Rf) (w : World) : List ResultVar → List Value → Prop
 | [], [] => True
 | r :: rs, v :: vs => Ie P ρ w r v ∧ gM P ρ w rs vs
 | _, _ => False
def uX : List Value → Value
 | [v] => v
 | vs => .tuple vs.toArray
def mn (P : Program) (fn : Func) (R : Ending → World → Prop) : Kq := fun e ρ w =>
 (e = .normal ∨ e = .ret) ∧ ∃ v, (∀ tmps : Array Value, (∀ i, tmps.getD i undef = ρ i) → (results fn tmps).run P w = .ok v w) ∧ R (.returned v) w
theorem DN {P : Program} {ρ : Rf} {w : World} {f : ResultVar → Sem Value} (h1 : ∀ t, (f (.tmp t)).run P w = .ok (ρ t) w)
  (h2 : ∀ p t a v, ρ p = .pointer (some a) → (loadVar t a).run P w = .ok v w → (f (.cell p t)).run P w = .ok v w) : ∀ (rs : List ResultVar) (vs : List Value), gM P ρ w rs vs →
  (rs.mapM f).run P w = .ok vs w
 | [], [], _ => by simp
 | [], _ :: _, h => h.elim
 | _ :: _, [], h => h.elim
 | r :: rs, v :: vs, h => by
  have ih := DN h1 h2 rs vs h.2;obtain ⟨h3, _⟩ := h;rw [List.mapM_cons]
  cases h3 with
  | tmp t hv => rw [Sem.run_bind, h1, Result.andThen_ok, Sem.run_bind, ih, Result.andThen_ok, Sem.run_pure, hv]
  | cell p t hp hl => rw [Sem.run_bind, h2 _ _ _ _ hp hl, Result.andThen_ok, Sem.run_bind, ih, Result.andThen_ok, Sem.run_pure]
theorem ka {P : Program} {fn : Func} {R : Ending → World → Prop} {ρ : Rf} {w : World} {rs : List ResultVar} {vs : List Value} {e : Exit} (he : e = .normal ∨ e = .ret) (hr : fn.results = rs.toArray)
  (hv : gM P ρ w rs vs) (h : R (.returned (uX vs)) w) : mn P fn R e ρ w := by
 refine ⟨he, uX vs, fun tmps ht => ?_, h⟩;unfold results;rw [hr, Sem.run_bind, List.mapM_toArray, Sem.run_map, DN (ρ := ρ) (fun t => by simp [ht]) (fun p t a v hp hl => by simp [ht, hp, asAddr, hl]) rs vs hv];simp only [Result.andThen_ok]
 match vs with
 | [] => simp [uX]
 | [v] => simp [uX]
 | _ :: _ :: _ => simp [uX]
theorem fq {P : Program} {ρ : Rf} {w : World} : gM P ρ w [] [] := trivial
theorem jq {P : Program} {ρ : Rf} {w : World} {t : Tmp} {v : Value} {rs : List ResultVar} {vs : List Value} (h : ρ t = v) (k : gM P ρ w rs vs) : gM P ρ w (.tmp t :: rs) (v :: vs) := ⟨.tmp t h, k⟩
theorem dy {P : Program} {ρ : Rf} {w : World} {p : Tmp} {t : TypeId} {a : Addr} {v : Value} {rs : List ResultVar} {vs : List Value} (hp : ρ p = .pointer (some a)) (h : (loadVar t a).run P w = .ok v w) (k : gM P ρ w rs vs) : gM P ρ w (.cell p t :: rs) (v :: vs) := ⟨.cell p t hp h, k⟩
theorem Qr {P : Program} {fn : Func} {R : Ending → World → Prop} {ρ : Rf} {w : World} {t : Tmp} {e : Exit} {v : Value} (he : e = .normal ∨ e = .ret) (hr : fn.results = #[.tmp t]) (hv : ρ t = v) (h : R (.returned v) w) : mn P fn R e ρ w :=
 ka he hr (jq hv fq) h
theorem Qq {P : Program} {fn : Func} {R : Ending → World → Prop} {ρ : Rf} {w : World} {t u : Tmp} {e : Exit} {v x : Value} (he : e = .normal ∨ e = .ret) (hr : fn.results = #[.tmp t, .tmp u]) (hv : ρ t = v) (hx : ρ u = x) (h : R (.returned (.tuple #[v, x])) w) : mn P fn R e ρ w :=
 ka he hr (jq hv (jq hx fq)) h
theorem Qf {P : Program} {fn : Func} {R : Ending → World → Prop} {ρ : Rf} {w : World} {t u s : Tmp} {e : Exit} {v x y : Value} (he : e = .normal ∨ e = .ret) (hr : fn.results = #[.tmp t, .tmp u, .tmp s]) (hv : ρ t = v) (hx : ρ u = x) (hy : ρ s = y) (h : R (.returned (.tuple #[v, x, y])) w) : mn P fn R e ρ w :=
 ka he hr (jq hv (jq hx (jq hy fq))) h
theorem Jc {P : Program} {fn : Func} {R : Ending → World → Prop} {ρ : Rf} {w : World} {e : Exit} (he : e = .normal ∨ e = .ret) (hr : fn.results = #[]) (h : R (.returned (.tuple #[])) w) : mn P fn R e ρ w :=
 ka he hr fq h
theorem Pk {P : Program} {fn : Func} {R : Ending → World → Prop} {ρ : Rf} {w : World} {r : ResultVar} {e : Exit} {v : Value} (he : e = .normal ∨ e = .ret) (hr : fn.results = #[r]) (h1 : gM P ρ w [r] [v]) (h : R (.returned v) w) : mn P fn R e ρ w :=
 ka he hr h1 h
theorem Py {P : Program} {fn : Func} {R : Ending → World → Prop} {ρ : Rf} {w : World} {r s : ResultVar} {e : Exit} {v x : Value} (he : e = .normal ∨ e = .ret) (hr : fn.results = #[r, s]) (h1 : gM P ρ w [r, s] [v, x]) (h : R (.returned (.tuple #[v, x])) w) : mn P fn R e ρ w :=
 ka he hr h1 h
theorem Pv {P : Program} {fn : Func} {R : Ending → World → Prop} {ρ : Rf} {w : World} {r s t : ResultVar} {e : Exit} {v x y : Value} (he : e = .normal ∨ e = .ret) (hr : fn.results = #[r, s, t]) (h1 : gM P ρ w [r, s, t] [v, x, y]) (h : R (.returned (.tuple #[v, x, y])) w) : mn P fn R e ρ w :=
 ka he hr h1 h
def CI (l : List Value) : Rf := fun i => l.getD i undef
theorem aj {P : Program} {f : FuncId} {fn : Func} {c : Code} {N : Nat} {l : List Value} {w : World} {R : Ending → World → Prop}
  (hf : P.funcs[f]? = some fn) (hb : fn.body = some c) (hn : fn.ntmps = N) (ha : l.length ≤ N)
  (h : WC .plain P N c (mn P fn R) (CI l) w) : Calls P f l.toArray w R := by
 refine calls_of_wp hf hb ?_;refine wp_mono (h.out _ ⟨rfl, by simp [hn]; omega, fun i => ?_⟩) ?_
 ·exact MW
 ·rintro e a w' ⟨ρ', hf', he, v, hr, hR⟩
  rcases he with rfl | rfl <;> exact ⟨hf'.nd, v, hr _ hf'.at_, hR⟩
section
variable {ro : Mode} {P : Program} {N : Nat} {ops : Array Oper} {Q : Kq} {ρ : Rf} {w : World} {rest : List Oper}
theorem kU {f : Operand → Value} {o : Oper} {x : Next} {w' : World} (ro : Option Nat) (h : (execOp f o).run P w = .ok x w') (hx : ∀ d, x ≠ .defer d) : (o.semAt ro f).run P w = .ok x w' := by
 cases hop : o.op with
 | defer c =>
  exfalso;unfold execOp at h;rw [hop] at h;simp only [Sem.run_bind] at h
  cases h2 : (resolve f c o.type).run P w with
  | ok v w2 =>
   rw [h2] at h;simp at h;exact hx _ h.1.symm
  | halt e w2 =>
   rw [h2] at h;simp [Result.andThen] at h
 | _ => rw [Oper.semAt_eq _ _ _ (by rw [hop]; intro c hc; cases hc)]; exact h
theorem yI {r1 : Option Nat} {n : Nat} {f : FuncId} {args : Array Value} {R : Ending → World → Prop} (h : Calls P f args w R) : CallsIn (FW r1) n P f args w R := (callsIn_wide (n := n)).2 h
theorem az (h : Q .normal ρ w) : WL ro P N ops Q [] ρ w := ⟨fun _ _ hf => wpList_nil ⟨ρ, hf, h⟩, fun _ hf _ => wpListIn_nil ⟨ρ, hf, h⟩⟩
theorem aa {next : Rf → World → Prop} {Q' : Kq} (h : next ρ w) : WL ro P N ops (dR next Q') [] ρ w := az h
theorem aM {o : Oper} {d : Nat} {v : Value} {w' : World} (hg : o.guard = none) (hd : o.dst = some d) (hN : d < N)
  (hr : (execOp (ev ρ) o).run P w = .ok (.value v) w') (k : WL ro P N ops Q rest (cx ρ d v) w') : WL ro P N ops Q (o :: rest) ρ w :=
 ⟨fun hm a hf => wpList_plain hg fun K hK => by
  unfold Oper.wp;rw [hf.eval, hr];show K (a.put o.dst v) w';rw [hd];exact hK _ _ (k.lT hm _ (hf.put hN v)),
 fun a hf n => wpListIn_plain hg fun K hK => by
  refine ⟨fun _ _ => trivial, ?_⟩;rw [hf.eval, kU _ hr (fun _ h => by cases h)];show K (a.put o.dst v) w';rw [hd];exact hK _ _ (k.jX _ (hf.put hN v) n)⟩
theorem Du {o : Oper} {w' : World} (hg : o.guard = none) (hd : o.dst = none)
  (hr : (execOp (ev ρ) o).run P w = .ok .skip w') (k : WL ro P N ops Q rest ρ w') : WL ro P N ops Q (o :: rest) ρ w :=
 ⟨fun hm a hf => wpList_plain hg fun K hK => by
  unfold Oper.wp;rw [hf.eval, hr];show K (a.put o.dst undef) w';rw [hd];exact hK _ _ (k.lT hm _ hf),
 fun a hf n => wpListIn_plain hg fun K hK => by
  refine ⟨fun _ _ => trivial, ?_⟩;rw [hf.eval, kU _ hr (fun _ h => by cases h)];show K (a.put o.dst undef) w';rw [hd];exact hK _ _ (k.jX _ hf n)⟩
theorem xB {o : Oper} {d : Nat} {f : FuncId} {args : Array Value} {w1 : World} {R : Ending → World → Prop} (hg : o.guard = none) (hd : o.dst = some d) (hN : d < N)
  (hr : (execOp (ev ρ) o).run P w = .ok (.enter f args) w1) (hc : Calls P f args w1 R)
  (k : ∀ e w', R e w' → ∃ v, e = .returned v ∧ WL ro P N ops Q rest (cx ρ d v) w') : WL ro P N ops Q (o :: rest) ρ w :=
 ⟨fun hm a hf => wpList_plain hg fun K hK => by
  unfold Oper.wp;rw [hf.eval, hr];show Calls P f args w1 _;refine hc.mono fun e w' hR => ?_;obtain ⟨v, rfl, hk⟩ := k e w' hR;show K (a.put o.dst v) w';rw [hd];exact hK _ _ (hk.lT hm _ (hf.put hN v)),
 fun a hf n => wpListIn_plain hg fun K hK => by
  refine ⟨fun _ _ => trivial, ?_⟩;rw [hf.eval, kU _ hr (fun _ h => by cases h)];refine ⟨fun h => (by cases h), ?_⟩;refine yI (hc.mono fun e w' hR => ?_);obtain ⟨v, rfl, hk⟩ := k e w' hR;show K (a.put o.dst v) w';rw [hd];exact hK _ _ (hk.jX _ (hf.put hN v) n)⟩
theorem aH {d : Option Nat} {op : Op} {ty : TypeId} {pos : String} {af : Array Edge} {j dj : Nat} {b : Bool}
  (hj : (ops[j]?).bind (·.dst) = some dj) (hv : ρ dj = .bool b) (k : WL ro P N ops Q (⟨d, op, ty, pos, af, none⟩ :: rest) ρ w) :
  WL ro P N ops Q (⟨d, op, ty, pos, af, some (j, b)⟩ :: rest) ρ w :=
 have h0 : ∀ D a, eG N D a ρ → Region.wanted ⟨d, op, ty, pos, af, some (j, b)⟩ (yielded ops a.tmps) = true := fun D a hf => by
  have h2 := hf.at_ dj;rw [hv, Tn] at h2
  cases h3 : a.tmps[dj]? with
  | none => rw [h3] at h2; cases h2
  | some x =>
   rw [h3] at h2;simp only [TM] at h2;subst h2;simp [Region.wanted, yielded, hj, h3]
 ⟨fun hm a hf => by
  have h2 := k.lT hm a hf;unfold wpList at h2 ⊢;rw [Sj (h0 _ a hf)];rw [Sj (by simp [Region.wanted])] at h2;exact h2,
 fun a hf n => by
  have h2 := k.jX a hf n;unfold wpListIn at h2 ⊢;rw [Sj (h0 _ a hf)];rw [Sj (by simp [Region.wanted])] at h2;exact h2⟩
theorem kg {d : Nat} {op : Op} {ty : TypeId} {pos : String} {af : Array Edge} {j dj : Nat} {b c : Bool} (hN : d < N)
  (hj : (ops[j]?).bind (·.dst) = some dj) (hv : ρ dj = .bool c) (hb : c ≠ b) (k : WL ro P N ops Q rest (cx ρ d undef) w) :
  WL ro P N ops Q (⟨some d, op, ty, pos, af, some (j, b)⟩ :: rest) ρ w :=
 have h0 : ∀ D a, eG N D a ρ → Region.wanted ⟨some d, op, ty, pos, af, some (j, b)⟩ (yielded ops a.tmps) = false := fun D a hf => by
  have h2 := hf.at_ dj;rw [hv, Tn] at h2
  cases h3 : a.tmps[dj]? with
  | none => rw [h3] at h2; cases h2
  | some x =>
   rw [h3] at h2;simp only [TM] at h2;subst h2;simp [Region.wanted, yielded, hj, h3, hb]
 ⟨fun hm a hf => by
  unfold wpList;rw [h0 _ a hf];exact k.lT hm _ (hf.put hN undef),
 fun a hf n => by
  unfold wpListIn;rw [h0 _ a hf];exact ⟨fun _ _ => trivial, k.jX _ (hf.put hN undef) n⟩⟩
def nb (v : Value) (b : Bool) : Bool := match v with | .bool c => c != b | _ => true
theorem tf {d : Nat} {op : Op} {ty : TypeId} {pos : String} {af : Array Edge} {j dj : Nat} {b : Bool} (hN : d < N)
  (hj : (ops[j]?).bind (·.dst) = some dj) (hb : nb (ρ dj) b = true) (k : WL ro P N ops Q rest (cx ρ d undef) w) :
  WL ro P N ops Q (⟨some d, op, ty, pos, af, some (j, b)⟩ :: rest) ρ w := by
 cases hv : ρ dj with
 | bool c =>
  rw [hv] at hb;exact kg hN hj hv (by simpa [nb] using hb) k
 | _ =>
  have h0 : ∀ D a, eG N D a ρ → Region.wanted ⟨some d, op, ty, pos, af, some (j, b)⟩ (yielded ops a.tmps) = false := fun D a hf => by
   have h2 := hf.at_ dj;rw [hv, Tn] at h2
   cases h3 : a.tmps[dj]? with
   | none => simp [Region.wanted, yielded, hj, h3]
   | some x =>
    rw [h3] at h2;simp only [TM] at h2;subst h2;simp [Region.wanted, yielded, hj, h3]
  refine ⟨fun hm a hf => ?_, fun a hf n => ?_⟩
  ·unfold wpList;rw [h0 _ a hf];exact k.lT hm _ (hf.put hN undef)
  ·unfold wpListIn;rw [h0 _ a hf];exact ⟨fun _ _ => trivial, k.jX _ (hf.put hN undef) n⟩
end
section
variable {P : Program} {ρ : Rf} {w : World} {d : Option Nat} {ty : TypeId} {pos : String} {af : Array Edge} {g : Option (Nat × Bool)}
theorem eJ {x : Operand} {v : Value} (hx : ev ρ x = v) : (execOp (ev ρ) ⟨d, .move x, ty, pos, af, g⟩).run P w = .ok (.value v) w := by simp [execOp, hx]
theorem FO {x : Operand} {v : Value} (hx : ev ρ x = v) : (execOp (ev ρ) ⟨d, .assign x, ty, pos, af, g⟩).run P w = .ok (.value v) w := by simp [execOp, hx]
theorem zG {c a b : Operand} {v : Value} (hc : ev ρ c = .bool true) (hx : ev ρ a = v) : (execOp (ev ρ) ⟨d, .pick c a b, ty, pos, af, g⟩).run P w = .ok (.value v) w := by simp [execOp, asBool, hc, hx]
theorem xH {c a b : Operand} {v : Value} (hc : ev ρ c = .bool false) (hx : ev ρ b = v) : (execOp (ev ρ) ⟨d, .pick c a b, ty, pos, af, g⟩).run P w = .ok (.value v) w := by simp [execOp, asBool, hc, hx]
section ints
variable {t u : TypeId} {x y : Operand} {k : IntKind} {a b : Int}
theorem K9 (hx : ev ρ x = .int k a) (hy : ev ρ y = .int k b) : (execOp (ev ρ) ⟨d, .binOp .add t x y u, ty, pos, af, g⟩).run P w = .ok (.value (.int k (k.wrap (a + b)))) w := by
 simp [execOp, hx, hy, eqGuard, binOp, Op.intArith]
theorem KW (hx : ev ρ x = .int k a) (hy : ev ρ y = .int k b) : (execOp (ev ρ) ⟨d, .binOp .sub t x y u, ty, pos, af, g⟩).run P w = .ok (.value (.int k (k.wrap (a - b)))) w := by
 simp [execOp, hx, hy, eqGuard, binOp, Op.intArith]
theorem KT (hx : ev ρ x = .int k a) (hy : ev ρ y = .int k b) : (execOp (ev ρ) ⟨d, .binOp .mul t x y u, ty, pos, af, g⟩).run P w = .ok (.value (.int k (k.wrap (a * b)))) w := by
 simp [execOp, hx, hy, eqGuard, binOp, Op.intArith]
theorem LH (hx : ev ρ x = .int k a) (hy : ev ρ y = .int k b) (hb : b ≠ 0) : (execOp (ev ρ) ⟨d, .binOp .quo t x y u, ty, pos, af, g⟩).run P w = .ok (.value (.int k (k.wrap (a.tdiv b)))) w := by
 simp [execOp, hx, hy, eqGuard, binOp, Op.intDiv, hb]
theorem LJ (hx : ev ρ x = .int k a) (hy : ev ρ y = .int k b) (hb : b ≠ 0) : (execOp (ev ρ) ⟨d, .binOp .rem t x y u, ty, pos, af, g⟩).run P w = .ok (.value (.int k (a.tmod b))) w := by
 simp [execOp, hx, hy, eqGuard, binOp, Op.intDiv, hb]
theorem LO (hx : ev ρ x = .int k a) (hy : ev ρ y = .int k b) : (execOp (ev ρ) ⟨d, .binOp .and t x y u, ty, pos, af, g⟩).run P w = .ok (.value (.int k (k.wrap (BitVec.ofInt k.bits a &&& BitVec.ofInt k.bits b).toNat))) w := by
 simp [execOp, hx, hy, eqGuard, binOp, Op.intBits]
theorem Qp (hx : ev ρ x = .int k a) (hy : ev ρ y = .int k b) : (execOp (ev ρ) ⟨d, .binOp .or t x y u, ty, pos, af, g⟩).run P w = .ok (.value (.int k (k.wrap (BitVec.ofInt k.bits a ||| BitVec.ofInt k.bits b).toNat))) w := by
 simp [execOp, hx, hy, eqGuard, binOp, Op.intBits]
theorem OP {k' : IntKind} (hx : ev ρ x = .int k a) (hy : ev ρ y = .int k' b) (hb : 0 ≤ b) : (execOp (ev ρ) ⟨d, .binOp .shl t x y u, ty, pos, af, g⟩).run P w = .ok (.value (.int k (k.wrap (a * 2 ^ (min b.toNat k.bits))))) w := by
 simp [execOp, hx, hy, eqGuard, binOp, Op.shift, show ¬ b < 0 by omega]
theorem Lk {k' : IntKind} (hx : ev ρ x = .int k a) (hy : ev ρ y = .int k' b) (hb : 0 ≤ b) : (execOp (ev ρ) ⟨d, .binOp .shr t x y u, ty, pos, af, g⟩).run P w = .ok (.value (.int k (a.fdiv (2 ^ (min b.toNat k.bits))))) w := by
 simp [execOp, hx, hy, eqGuard, binOp, Op.shift, show ¬ b < 0 by omega]
theorem yT {op : BinOp} : (eqGuard op t x y (.int k a) (.int k b)).run P w = .ok () w := by
 unfold eqGuard; cases op <;> simp
theorem mu {op : BinOp} {r : Bool} (hx : ev ρ x = .int k a) (hy : ev ρ y = .int k b) (hop : (Op.intCmp op a b).run P w = .ok (.bool r) w) (hc : op = .eql ∨ op = .neq ∨ op = .lss ∨ op = .leq ∨ op = .gtr ∨ op = .geq) :
  (execOp (ev ρ) ⟨d, .binOp op t x y u, ty, pos, af, g⟩).run P w = .ok (.value (.bool r)) w := by
 rcases hc with h | h | h | h | h | h <;> subst h <;> simp [execOp, hx, hy, yT, binOp, hop]
theorem Jf (hx : ev ρ x = .int k a) (hy : ev ρ y = .int k b) (h : a < b) : (execOp (ev ρ) ⟨d, .binOp .lss t x y u, ty, pos, af, g⟩).run P w = .ok (.value (.bool true)) w :=
 mu hx hy (by simp [Op.intCmp, h]) (by simp)
theorem I3 (hx : ev ρ x = .int k a) (hy : ev ρ y = .int k b) (h : ¬ a < b) : (execOp (ev ρ) ⟨d, .binOp .lss t x y u, ty, pos, af, g⟩).run P w = .ok (.value (.bool false)) w :=
 mu hx hy (by simp [Op.intCmp]; omega) (by simp)
theorem Jq (hx : ev ρ x = .int k a) (hy : ev ρ y = .int k b) (h : a ≤ b) : (execOp (ev ρ) ⟨d, .binOp .leq t x y u, ty, pos, af, g⟩).run P w = .ok (.value (.bool true)) w :=
 mu hx hy (by simp [Op.intCmp, h]) (by simp)
theorem JY (hx : ev ρ x = .int k a) (hy : ev ρ y = .int k b) (h : ¬ a ≤ b) : (execOp (ev ρ) ⟨d, .binOp .leq t x y u, ty, pos, af, g⟩).run P w = .ok (.value (.bool false)) w :=
 mu hx hy (by simp [Op.intCmp]; omega) (by simp)
theorem JL (hx : ev ρ x = .int k a) (hy : ev ρ y = .int k b) (h : b < a) : (execOp (ev ρ) ⟨d, .binOp .gtr t x y u, ty, pos, af, g⟩).run P w = .ok (.value (.bool true)) w :=
 mu hx hy (by simp [Op.intCmp, h]) (by simp)
theorem Ks (hx : ev ρ x = .int k a) (hy : ev ρ y = .int k b) (h : ¬ b < a) : (execOp (ev ρ) ⟨d, .binOp .gtr t x y u, ty, pos, af, g⟩).run P w = .ok (.value (.bool false)) w :=
 mu hx hy (by simp [Op.intCmp]; omega) (by simp)
theorem I0 (hx : ev ρ x = .int k a) (hy : ev ρ y = .int k b) (h : b ≤ a) : (execOp (ev ρ) ⟨d, .binOp .geq t x y u, ty, pos, af, g⟩).run P w = .ok (.value (.bool true)) w :=
 mu hx hy (by simp [Op.intCmp, h]) (by simp)
theorem JI (hx : ev ρ x = .int k a) (hy : ev ρ y = .int k b) (h : ¬ b ≤ a) : (execOp (ev ρ) ⟨d, .binOp .geq t x y u, ty, pos, af, g⟩).run P w = .ok (.value (.bool false)) w :=
 mu hx hy (by simp [Op.intCmp]; omega) (by simp)
theorem JG (hx : ev ρ x = .int k a) (hy : ev ρ y = .int k b) (h : a ≠ b) : (execOp (ev ρ) ⟨d, .binOp .neq t x y u, ty, pos, af, g⟩).run P w = .ok (.value (.bool true)) w :=
 mu hx hy (by simp [Op.intCmp, h]) (by simp)
theorem Ka (hx : ev ρ x = .int k a) (hy : ev ρ y = .int k b) (h : a = b) : (execOp (ev ρ) ⟨d, .binOp .neq t x y u, ty, pos, af, g⟩).run P w = .ok (.value (.bool false)) w :=
 mu hx hy (by simp [Op.intCmp, h]) (by simp)
theorem BR (hx : ev ρ x = .int k a) (hy : ev ρ y = .int k b) : (execOp (ev ρ) ⟨d, .binOp .eql t x y u, ty, pos, af, g⟩).run P w = .ok (.value (.bool (decide (a = b)))) w :=
 mu hx hy (by simp [Op.intCmp]; rw [Bool.eq_iff_iff]; simp) (by simp)
theorem Lc (hx : ev ρ x = .int k a) : (execOp (ev ρ) ⟨d, .unOp .neg t x, ty, pos, af, g⟩).run P w = .ok (.value (.int k (k.wrap (-a)))) w := by
 simp [execOp, hx, Op.unary, Op.intArith]
theorem jW {n : Int} (h1 : -9223372036854775808 ≤ n) (h2 : n ≤ 9223372036854775807) : IntKind.i64.wrap n = n := IntWalk.i64_in n ⟨h1, h2⟩
theorem Iv (hx : ev ρ x = .int .i64 a) (hy : ev ρ y = .int .i64 b) (h1 : -9223372036854775808 ≤ a + b) (h2 : a + b ≤ 9223372036854775807) : (execOp (ev ρ) ⟨d, .binOp .add t x y u, ty, pos, af, g⟩).run P w = .ok (.value (.int .i64 (a + b))) w := by
 rw [K9 hx hy, jW h1 h2]
theorem HQ (hx : ev ρ x = .int .i64 a) (hy : ev ρ y = .int .i64 b) (h1 : -9223372036854775808 ≤ a - b) (h2 : a - b ≤ 9223372036854775807) : (execOp (ev ρ) ⟨d, .binOp .sub t x y u, ty, pos, af, g⟩).run P w = .ok (.value (.int .i64 (a - b))) w := by
 rw [KW hx hy, jW h1 h2]
theorem GH (hx : ev ρ x = .int .i64 a) (hy : ev ρ y = .int .i64 b) (h1 : -9223372036854775808 ≤ a * b) (h2 : a * b ≤ 9223372036854775807) : (execOp (ev ρ) ⟨d, .binOp .mul t x y u, ty, pos, af, g⟩).run P w = .ok (.value (.int .i64 (a * b))) w := by
 rw [KT hx hy, jW h1 h2]
theorem Gy (hx : ev ρ x = .int .i64 a) (h1 : -9223372036854775808 ≤ -a) (h2 : -a ≤ 9223372036854775807) : (execOp (ev ρ) ⟨d, .unOp .neg t x, ty, pos, af, g⟩).run P w = .ok (.value (.int .i64 (-a))) w := by
 rw [Lc hx, jW h1 h2]
theorem sI (hx : ev ρ x = .int .i64 a) (hy : ev ρ y = .int .i64 b) (ha : 0 ≤ a) (hb : 0 < b) (h2 : a ≤ 9223372036854775807) : (execOp (ev ρ) ⟨d, .binOp .quo t x y u, ty, pos, af, g⟩).run P w = .ok (.value (.int .i64 (a / b))) w := by
 have h3 : a / b ≤ a := Int.ediv_le_self b ha;have h4 : 0 ≤ a / b := Int.ediv_nonneg ha Sd;rw [LH hx hy Sd, Vb ha, jW Sd Sd]
theorem pF (hx : ev ρ x = .int .i64 a) (hy : ev ρ y = .int .i64 b) (ha : 0 ≤ a) (hb : 0 < b) : (execOp (ev ρ) ⟨d, .binOp .rem t x y u, ty, pos, af, g⟩).run P w = .ok (.value (.int .i64 (a % b))) w := by
 rw [LJ hx hy Sd, Int.tmod_eq_emod_of_nonneg ha]
end ints
theorem LS {t : TypeId} {x : Operand} {b : Bool} (hx : ev ρ x = .bool b) : (execOp (ev ρ) ⟨d, .unOp .not t x, ty, pos, af, g⟩).run P w = .ok (.value (.bool !b)) w := by
 simp [execOp, hx, Op.unary]
section bools
variable {t u : TypeId} {x y : Operand} {a b : Bool}
theorem xf (n : Nat) (ht : P.underlying t = some .bool) : (Op.equalIn (n + 1) t (.bool a) (.bool b)).run P w = .ok (a == b) w := by
 simp [Op.equalIn, run_underlying ht]
theorem so (ht : P.underlying t = some .bool) : (Op.equal t (.bool a) (.bool b)).run P w = .ok (a == b) w := xf 9999 ht
theorem rO (ht : P.underlying t = some .bool) : (binOp .eql t (.bool a) (.bool b)).run P w = .ok (.bool (a == b)) w := by
 simp only [binOp];simp [so ht]
theorem sM (ht : P.underlying t = some .bool) : (binOp .neq t (.bool a) (.bool b)).run P w = .ok (.bool (a != b)) w := by
 simp only [binOp];simp [so ht, bne]
theorem r6 (ht : P.underlying t = some .bool) (hx : ev ρ x = .bool a) (hy : ev ρ y = .bool b) : (execOp (ev ρ) ⟨d, .binOp .eql t x y u, ty, pos, af, g⟩).run P w = .ok (.value (.bool (a == b))) w := by
 simp only [execOp, hx, hy, eqGuard];simp [rO ht]
theorem nE (ht : P.underlying t = some .bool) (hx : ev ρ x = .bool a) (hy : ev ρ y = .bool b) : (execOp (ev ρ) ⟨d, .binOp .neq t x y u, ty, pos, af, g⟩).run P w = .ok (.value (.bool (a != b))) w := by
 simp only [execOp, hx, hy, eqGuard];simp [sM ht]
end bools
section yn
variable {t u : TypeId} {x y : Operand} {a b : ByteArray}
theorem zt {op : BinOp} : (eqGuard op t x y (.string a) (.string b)).run P w = .ok () w := by
 unfold eqGuard; cases op <;> simp
theorem y2 {op : BinOp} {r : Value} (hx : ev ρ x = .string a) (hy : ev ρ y = .string b) (hs : op ≠ .shl ∧ op ≠ .shr) (hop : (Op.stringOp op a b).run P w = .ok r w) :
  (execOp (ev ρ) ⟨d, .binOp op t x y u, ty, pos, af, g⟩).run P w = .ok (.value r) w := by
 cases op <;> simp_all [execOp, zt, binOp]
theorem u3 (hx : ev ρ x = .string a) (hy : ev ρ y = .string b) : (execOp (ev ρ) ⟨d, .binOp .eql t x y u, ty, pos, af, g⟩).run P w = .ok (.value (.bool (a.toList == b.toList))) w :=
 y2 hx hy (by simp) (by simp [Op.stringOp])
theorem u5 (hx : ev ρ x = .string a) (hy : ev ρ y = .string b) : (execOp (ev ρ) ⟨d, .binOp .neq t x y u, ty, pos, af, g⟩).run P w = .ok (.value (.bool !(a.toList == b.toList))) w :=
 y2 hx hy (by simp) (by simp [Op.stringOp])
theorem F7 {a b : ByteArray} : (a.toList == b.toList) = decide (a = b) := by
 have key : ∀ s : ByteArray, s.toList = s.data.toList := fun s => by
  exact O6
 rw [Bool.eq_iff_iff, T0, SJ, key, key];constructor
 ·intro h; cases a; cases b; congr 1; exact Array.ext' h
 ·intro h; rw [h]
theorem xR (hx : ev ρ x = .string a) (hy : ev ρ y = .string b) (h : a = b) : (execOp (ev ρ) ⟨d, .binOp .eql t x y u, ty, pos, af, g⟩).run P w = .ok (.value (.bool true)) w := by
 rw [u3 hx hy, F7]; simp [h]
theorem zJ (hx : ev ρ x = .string a) (hy : ev ρ y = .string b) (h : ¬ a = b) : (execOp (ev ρ) ⟨d, .binOp .eql t x y u, ty, pos, af, g⟩).run P w = .ok (.value (.bool false)) w := by
 rw [u3 hx hy, F7]; simp [h]
theorem x9 (hx : ev ρ x = .string a) (hy : ev ρ y = .string b) (h : ¬ a = b) : (execOp (ev ρ) ⟨d, .binOp .neq t x y u, ty, pos, af, g⟩).run P w = .ok (.value (.bool true)) w := by
 rw [u5 hx hy, F7]; simp [h]
theorem zd (hx : ev ρ x = .string a) (hy : ev ρ y = .string b) (h : a = b) : (execOp (ev ρ) ⟨d, .binOp .neq t x y u, ty, pos, af, g⟩).run P w = .ok (.value (.bool false)) w := by
 rw [u5 hx hy, F7]; simp [h]
theorem Es (hx : ev ρ x = .string a) (hy : ev ρ y = .string b) : (execOp (ev ρ) ⟨d, .binOp .lss t x y u, ty, pos, af, g⟩).run P w = .ok (.value (.bool (Op.bytesLess a.toList b.toList))) w :=
 y2 hx hy (by simp) (by simp [Op.stringOp])
theorem D9 (hx : ev ρ x = .string a) (hy : ev ρ y = .string b) : (execOp (ev ρ) ⟨d, .binOp .gtr t x y u, ty, pos, af, g⟩).run P w = .ok (.value (.bool !(Op.bytesLess a.toList b.toList || a.toList == b.toList))) w :=
 y2 hx hy (by simp) (by simp [Op.stringOp])
theorem EC (hx : ev ρ x = .string a) (hy : ev ρ y = .string b) : (execOp (ev ρ) ⟨d, .binOp .geq t x y u, ty, pos, af, g⟩).run P w = .ok (.value (.bool !(Op.bytesLess a.toList b.toList))) w :=
 y2 hx hy (by simp) (by simp [Op.stringOp])
end yn
theorem lJ {s t : TypeId} {x : Operand} {k k' : IntKind} {a : Int} {sd : TypeDesc} (hs : P.underlying s = some sd) (ht : P.underlying t = some (.int k)) (hx : ev ρ x = .int k' a) :
  (execOp (ev ρ) ⟨d, .convert s t x, ty, pos, af, g⟩).run P w = .ok (.value (.int k (k.wrap a))) w := by
 simp [execOp, hx, convert, run_underlying hs, run_underlying ht, Conv.intToInt]
theorem Bq {s t : TypeId} {x : Operand} {k' : IntKind} {a : Int} {sd : TypeDesc} (hs : P.underlying s = some sd) (ht : P.underlying t = some (.int .i64)) (hx : ev ρ x = .int k' a) (h1 : -9223372036854775808 ≤ a) (h2 : a ≤ 9223372036854775807) :
  (execOp (ev ρ) ⟨d, .convert s t x, ty, pos, af, g⟩).run P w = .ok (.value (.int .i64 a)) w := by
 rw [lJ hs ht hx, jW h1 h2]
theorem de {x : Operand} {i : Nat} {vs : List Value} {v : Value} (hx : ev ρ x = .tuple vs.toArray) (hv : vs[i]? = some v) :
  (execOp (ev ρ) ⟨d, .extract x i, ty, pos, af, g⟩).run P w = .ok (.value v) w := by
 simp [execOp, hx, Instr.extract, hv]
def uM (ρ : Rf) : List Operand → List Value
 | [] => []
 | x :: l => ev ρ x :: uM ρ l
theorem mW {ρ : Rf} (args : Array Operand) {vs : List Value} (h : uM ρ args.toList = vs) : args.map (ev ρ) = vs.toArray := by
 have h1 : ∀ l : List Operand, l.map (ev ρ) = uM ρ l := by
  intro l
  induction l with
  | nil => rfl
  | cons a l ih => simp only [SW, ih]; rfl
 subst h;rw [← h1];apply Array.ext';simp
theorem nw {fn : Fn} {first captured : Array Operand} {fs cs : List Value} (hf : uM ρ first.toList = fs) (hc : uM ρ captured.toList = cs) :
  (execOp (ev ρ) ⟨d, .makeFunc fn first captured, ty, pos, af, g⟩).run P w = .ok (.value (.func fn fs.toArray cs.toArray)) w := by
 simp [execOp, mW _ hf, mW _ hc, Instr.makeFunc]
theorem j6 {i : Nat} {k : IntKind} {n : Int} (h : ρ i = .int k n) : ρ i = .int k n := h
theorem mj {i : Nat} {b : Bool} (h : ρ i = .bool b) : ρ i = .bool b := h
theorem vg {i : Nat} {s : ByteArray} (h : ρ i = .string s) : ρ i = .string s := h
theorem Fp {i : Nat} {A : Option Addr} {n c : Nat} (h : ρ i = .slice A n c) : ρ i = .slice A n c := h
theorem cJ {x : Operand} {k : IntKind} {n : Int} (h : ev ρ x = .int k n) : ev ρ x = .int k n := h
theorem rj {x : Operand} {b : Bool} (h : ev ρ x = .bool b) : ev ρ x = .bool b := h
theorem Hl {x : Operand} {s : ByteArray} (h : ev ρ x = .string s) : ev ρ x = .string s := h
theorem C5 {x : Operand} {A : Option Addr} {n c : Nat} (h : ev ρ x = .slice A n c) : ev ρ x = .slice A n c := h
theorem Bh {x : Operand} {a : Addr} (h : ev ρ x = .pointer (some a)) : ev ρ x = .pointer (some a) := h
theorem iq {x : Operand} {l : List Value} (h : ev ρ x = .agg l.toArray) : ev ρ x = .agg l.toArray := h
theorem MH {x : Operand} {l : List Value} (h : ev ρ x = .tuple l.toArray) : ev ρ x = .tuple l.toArray := h
theorem xt {x : Operand} {f : Fn} {a b : List Value} (h : ev ρ x = .func f a.toArray b.toArray) : ev ρ x = .func f a.toArray b.toArray := h
theorem wY {x : Operand} (h : ev ρ x = .nilFunc) : ev ρ x = .nilFunc := h
theorem Fb {x : Operand} {t : TypeId} {s : ByteArray} (ht : P.underlying t = some .string) (hx : ev ρ x = .string s) :
  (execOp (ev ρ) ⟨d, .call ⟨.builtin .len, #[x], #[t]⟩, ty, pos, af, g⟩).run P w = .ok (.value (.int .i64 s.size)) w := by
 simp [execOp, resolve, invoke, builtin, Builtin.len_, hx, run_underlying ht, goInt]
theorem yh {x : Operand} {t e : TypeId} {A : Option Addr} {n c : Nat} (ht : P.underlying t = some (.slice e)) (hx : ev ρ x = .slice A n c) :
  (execOp (ev ρ) ⟨d, .call ⟨.builtin .len, #[x], #[t]⟩, ty, pos, af, g⟩).run P w = .ok (.value (.int .i64 n)) w := by
 simp [execOp, resolve, invoke, builtin, Builtin.len_, hx, run_underlying ht, goInt]
theorem PJ {x y : Operand} {ts : Array TypeId} {k : IntKind} {a b : Int} (hx : ev ρ x = .int k a) (hy : ev ρ y = .int k b) :
  (execOp (ev ρ) ⟨d, .call ⟨.builtin .min, #[x, y], ts⟩, ty, pos, af, g⟩).run P w = .ok (.value (.int k (if b < a then b else a))) w := by
 simp [execOp, resolve, invoke, builtin, Builtin.min_, Builtin.min2, hx, hy, List.foldlM]
theorem K3 {x y : Operand} {ts : Array TypeId} {k : IntKind} {a b : Int} (hx : ev ρ x = .int k a) (hy : ev ρ y = .int k b) :
  (execOp (ev ρ) ⟨d, .call ⟨.builtin .max, #[x, y], ts⟩, ty, pos, af, g⟩).run P w = .ok (.value (.int k (if b > a then b else a))) w := by
 simp [execOp, resolve, invoke, builtin, Builtin.max_, Builtin.max2, hx, hy, List.foldlM]
theorem qP {t : TypeId} {x i : Operand} {s : ByteArray} {n : Int} {k : IntKind} {c : UInt8} (ht : P.underlying t = some .string) (hx : ev ρ x = .string s) (hi : ev ρ i = .int k n)
  (h0 : 0 ≤ n) (hc : s.data.toList[n.toNat]? = some c) : (execOp (ev ρ) ⟨d, .index t x i, ty, pos, af, g⟩).run P w = .ok (.value (.int .u8 c.toNat)) w := by
 have hs : s[n.toNat]? = some c := by
  rw [← hc];obtain ⟨h1, h2⟩ := SC.1 hc;have h3 : n.toNat < s.size := by simpa using h1
  rw [getElem?_pos s n.toNat h3, getElem?_pos s.data.toList n.toNat h1]
  rfl
 simp [execOp, hx, hi, Instr.index, asIntOf, run_underlying ht, h0, hs]
theorem yr {t : TypeId} {x : Operand} {lo hi : Option Operand} {s : ByteArray} {l h : Nat} (ht : P.underlying t = some .string) (hx : ev ρ x = .string s)
  (hlo : match lo with | none => l = 0 | some o => ∃ (k : IntKind) (n : Int), ev ρ o = .int k n ∧ n = l) (hhi : match hi with | none => h = s.size | some o => ∃ (k : IntKind) (n : Int), ev ρ o = .int k n ∧ n = h)
  (h1 : l ≤ h) (h2 : h ≤ s.size) : (execOp (ev ρ) ⟨d, .slice t x lo hi none, ty, pos, af, g⟩).run P w = .ok (.value (.string (s.extract l h))) w := by
 have e1 : (l : Int) ≤ h := Sd;have e2 : (h : Int) ≤ s.size := Sd
 cases lo <;> cases hi <;> simp only [] at hlo hhi
 ·subst hlo; subst hhi;simp [execOp, hx, Instr.sliceAt, Instr.slice, run_underlying ht, Instr.sliceBounds]
 ·obtain ⟨k2, n2, hv2, rfl⟩ := hhi;subst hlo;simp [execOp, hx, Instr.sliceAt, Instr.slice, run_underlying ht, Instr.sliceBounds, Instr.sliceBound, asIntOf, hv2, h2]
 ·obtain ⟨k2, n2, hv2, rfl⟩ := hlo;subst hhi;simp [execOp, hx, Instr.sliceAt, Instr.slice, run_underlying ht, Instr.sliceBounds, Instr.sliceBound, asIntOf, hv2, h1]
 ·obtain ⟨k2, n2, hv2, rfl⟩ := hhi;obtain ⟨k3, n3, hv3, rfl⟩ := hlo;simp [execOp, hx, Instr.sliceAt, Instr.slice, run_underlying ht, Instr.sliceBounds, Instr.sliceBound, asIntOf, hv2, hv3, h1, h2]
theorem iB {t e : TypeId} {x : Operand} {lo hi : Option Operand} {A : Option Addr} {n c l h sz : Nat} (ht : P.underlying t = some (.slice e)) (hsz : (P.info? e).map (·.size) = some sz) (hx : ev ρ x = .slice A n c)
  (hlo : match lo with | none => l = 0 | some o => ∃ (k : IntKind) (n : Int), ev ρ o = .int k n ∧ n = l) (hhi : match hi with | none => h = n | some o => ∃ (k : IntKind) (n : Int), ev ρ o = .int k n ∧ n = h)
  (h1 : l ≤ h) (h2 : h ≤ c) : (execOp (ev ρ) ⟨d, .slice t x lo hi none, ty, pos, af, g⟩).run P w = .ok (.value (.slice (if c = l then A else A.map (·.add (l * sz))) (h - l) (c - l))) w := by
 obtain ⟨i, hi1, hi2⟩ := TH.1 hsz;have e1 : (l : Int) ≤ h := Sd;have e2 : (h : Int) ≤ c := Sd
 cases lo <;> cases hi <;> simp only [] at hlo hhi
 ·subst hlo; subst hhi;simp [execOp, hx, Instr.sliceAt, Instr.slice, run_underlying ht, Instr.sliceBounds, sizeOf, typeInfo, hi1]
 ·obtain ⟨k2, n2, hv2, rfl⟩ := hhi;subst hlo;simp [execOp, hx, Instr.sliceAt, Instr.slice, run_underlying ht, Instr.sliceBounds, Instr.sliceBound, asIntOf, hv2, h2, sizeOf, typeInfo, hi1]
 ·obtain ⟨k2, n2, hv2, rfl⟩ := hlo;subst hhi;simp [execOp, hx, Instr.sliceAt, Instr.slice, run_underlying ht, Instr.sliceBounds, Instr.sliceBound, asIntOf, hv2, h1, sizeOf, typeInfo, hi1, hi2]
 ·obtain ⟨k2, n2, hv2, rfl⟩ := hhi;obtain ⟨k3, n3, hv3, rfl⟩ := hlo;simp [execOp, hx, Instr.sliceAt, Instr.slice, run_underlying ht, Instr.sliceBounds, Instr.sliceBound, asIntOf, hv2, hv3, h1, h2, sizeOf, typeInfo, hi1, hi2]
theorem eT {t e : TypeId} {x i : Operand} {ad : Addr} {n c sz : Nat} {k : IntKind} {m : Int} (ht : P.underlying t = some (.slice e)) (hsz : (P.info? e).map (·.size) = some sz) (hx : ev ρ x = .slice (some ad) n c) (hi : ev ρ i = .int k m)
  (h0 : 0 ≤ m) (h1 : m < n) : (execOp (ev ρ) ⟨d, .indexAddr t x i, ty, pos, af, g⟩).run P w = .ok (.value (.pointer (some (ad.add (m.toNat * sz))))) w := by
 obtain ⟨i, hi1, hi2⟩ := TH.1 hsz;simp [execOp, hx, hi, Instr.indexAt, asIntOf, run_underlying ht, sizeOf, typeInfo, hi1, hi2, h0, h1]
theorem tw {t e : TypeId} {x i : Operand} {b n c sz k : Nat} {kk : IntKind} {m : Int} (ht : P.underlying t = some (.slice e)) (hsz : (P.info? e).map (·.size) = some sz) (hx : ev ρ x = .slice (some ⟨b, 0, none⟩) n c) (hi : ev ρ i = .int kk m)
  (hm : m = (k : Int)) (h1 : k < n) : (execOp (ev ρ) ⟨d, .indexAddr t x i, ty, pos, af, g⟩).run P w = .ok (.value (.pointer (some ⟨b, k * sz, none⟩))) w := by
 have h := eT (P := P) (w := w) (d := d) (ty := ty) (pos := pos) (af := af) (g := g) ht hsz hx hi Sd Sd;rw [h, hm];have : (⟨b, 0, none⟩ : Addr).add (((k : Int)).toNat * sz) = ⟨b, k * sz, none⟩ := by
  unfold Addr.add;split
  ·rename_i h0;rw [T7] at h0;rw [h0]
  ·rw [T7]; simp
 rw [this]
theorem Fz {x : Operand} {args : Array Operand} {ts : Array TypeId} {f : FuncId} {fn : Func} {first cap : Array Value} {vs : Array Value} (hf : P.funcs[f]? = some fn) (hb : fn.body.isNone = false) (hn : (fn.name == "runtime.NumGoroutine") = false)
  (hx : ev ρ x = .func (.func f) first cap) (ha : args.map (ev ρ) = vs) : (execOp (ev ρ) ⟨d, .call ⟨.value x, args, ts⟩, ty, pos, af, g⟩).run P w = .ok (.enter f (first ++ vs ++ cap)) w := by
 have h1 : ¬ fn.name = "runtime.NumGoroutine" := by simpa using hn
 have h2 : ¬ fn.body = none := by intro h; simp [h] at hb
 simp [execOp, resolve, Deferred.ofValue, hx, ha, invoke, callFunc, program, Sem.run, hf, h1, h2]
end
def dk (P : Program) (t : TypeId) : Option (Nat × Bool × Nat × List Value) :=
 match P.info? t, P.underlying t with
 | some i, some d => i.zero.map fun z => (i.size, (match d with | .struct _ | .array _ _ => true | _ => false), i.bytes, z.cells.toList)
 | _, _ => none
theorem eW {P : Program} {t : TypeId} {n by' : Nat} {ag : Bool} {zc : List Value} (h : dk P t = some (n, ag, by', zc)) :
  ∃ i z d, P.info? t = some i ∧ P.underlying t = some d ∧ i.zero = some z ∧ i.size = n ∧ i.bytes = by' ∧ z.cells = zc.toArray ∧ (match d with | .struct _ | .array _ _ => true | _ => false) = ag := by
 unfold dk at h;split at h
 ·rename_i i d hi hd;obtain ⟨z, hz, he⟩ := TH.1 h;simp only [Prod.mk.injEq] at he;exact ⟨i, z, d, hi, hd, hz, he.1, he.2.2.1, by rw [← he.2.2.2], he.2.1⟩
 ·cases h
section
variable {P : Program} {w : World} {t : TypeId} {n by' : Nat} {ag : Bool} {zc : List Value}
theorem eP (h : dk P t = some (n, ag, by', zc)) : (sizeOf t).run P w = .ok n w := by
 obtain ⟨i, z, d, hi, hd, hz, hs, _⟩ := eW h;simp [sizeOf, typeInfo, hi, hs]
theorem iI (h : dk P t = some (n, ag, by', zc)) : (isAgg t).run P w = .ok ag w := by
 obtain ⟨i, z, d, hi, hd, hz, hs, _, _, ha⟩ := eW h;simp only [isAgg, Sem.run_bind, run_underlying hd, Result.andThen_ok];subst ha
 cases d <;> rfl
theorem dY (h : dk P t = some (n, ag, by', zc)) : ∃ z, (zeroValue t).run P w = .ok z w ∧ z.cells = zc.toArray := by
 obtain ⟨i, z, d, hi, hd, hz, hs, _, hc, _⟩ := eW h;exact ⟨z, by simp [zeroValue, typeInfo, hi, hz], hc⟩
end
def Rd (w : World) (ad : Addr) (vs : List Value) : Prop := ∀ j u, vs[j]? = some u → w.cell? (ad.add j) = some u
def Sl (w : World) (A : Option Addr) (n k : Nat) (xs : List Value) : Prop := xs.length = n * k ∧ (0 < n → ∃ ad, A = some ad ∧ Rd w ad xs)
theorem eC (b o n : Nat) : (⟨b, o, none⟩ : Addr).add n = ⟨b, o + n, none⟩ := by
 unfold Addr.add;split
 ·rename_i h; subst h; rfl
 ·rfl
theorem oH (a : Addr) (i j : Nat) : (a.add i).add j = a.add (i + j) := by
 unfold Addr.add;by_cases hi : i = 0 <;> by_cases hj : j = 0 <;> simp [hi, hj, U7]
theorem lk {w : World} {a : Addr} {v : Value} (h : w.cell? a = some v) : a.block < w.heap.size := block_lt_of_cell h
theorem cj {w w' : World} (h : Below w.heap.size w w') {a : Addr} {v : Value} (hc : w.cell? a = some v) : w'.cell? a = some v := (h.cell (lk hc)).trans hc
theorem Rd.ext {w w' : World} {ad : Addr} {vs : List Value} (h : Rd w ad vs) (hb : Below w.heap.size w w') : Rd w' ad vs := fun j u hu => cj hb (h j u hu)
theorem Sl.ext {w w' : World} {A : Option Addr} {n k : Nat} {xs : List Value} (h : Sl w A n k xs) (hb : Below w.heap.size w w') : Sl w' A n k xs :=
 ⟨h.1, fun hn => let ⟨ad, ha, hr⟩ := h.2 hn; ⟨ad, ha, hr.ext hb⟩⟩
theorem Rd.drop {w : World} {ad : Addr} {vs : List Value} (h : Rd w ad vs) (i : Nat) : Rd w (ad.add i) (vs.drop i) := fun j u hu => by
 rw [oH];exact h _ u (by rw [← hu, Uo])
theorem Rd.take {w : World} {ad : Addr} {vs : List Value} (h : Rd w ad vs) (n : Nat) : Rd w ad (vs.take n) := fun j u hu => by
 rw [Ul] at hu;split at hu
 ·exact h _ u hu
 ·cases hu
theorem Rd.cell {w : World} {ad : Addr} {vs : List Value} (h : Rd w ad vs) {i : Nat} {v : Value} (hv : vs[i]? = some v) : w.cell? (ad.add i) = some v := h i v hv
theorem Sl.nil (w : World) (A : Option Addr) (k : Nat) : Sl w A 0 k [] := ⟨by simp, fun h => absurd h Sd⟩
theorem Sl.at_ {w : World} {A : Option Addr} {n k : Nat} {xs : List Value} (h : Sl w A n k xs) (hn : 0 < n) : ∃ ad, A = some ad ∧ Rd w ad xs := h.2 hn
theorem Rd.elem {w : World} {ad : Addr} {xs : List Value} (h : Rd w ad xs) (i k : Nat) : Rd w (ad.add (i * k)) ((xs.drop (i * k)).take k) := (h.drop _).take _
theorem Sl.cut {w : World} {A : Option Addr} {n k c l m : Nat} {xs : List Value} (h : Sl w A n k xs) (hl : l ≤ m) (hm : m ≤ n) (hc : n ≤ c) :
  Sl w (if c = l then A else A.map (·.add (l * k))) (m - l) k ((xs.drop (l * k)).take ((m - l) * k)) := by
 have hle : l * k + (m - l) * k ≤ n * k := by
  rw [← Up];exact S9 _ Sd
 refine ⟨by rw [SP, TT, h.1]; omega, fun hn => ?_⟩;obtain ⟨ad, rfl, hr⟩ := h.2 Sd;rw [Si Sd];exact ⟨_, rfl, (hr.drop _).take _⟩
inductive HE where
 | blk (b : Nat) (t : TypeId) (cs : List Value) (fz : Nat × Nat)
 | row (A : Option Addr) (n c : Nat) (t : TypeId) (sz : Nat) (xs : List Value)
 | ob (b : Nat) (o : Obj)
abbrev HE.it (b : Nat) (s : ByteArray) (pos : Nat) : HE := .ob b (.stringIter s pos)
def HE.id : HE → Option Nat
 | .blk b _ _ _ => some b
 | .row A _ _ _ _ _ => A.map (·.block)
 | .ob b _ => some b
def HE.holds (base : Nat) (w : World) : HE → Prop
 | .blk b t cs fz => base ≤ b ∧ w.heap[b]? = some (.cells cs.toArray t fz) ∧ (cs.length ≤ fz.1 ∨ fz.2 ≤ fz.1)
 | .row A n c t sz xs => w.ownsRow base t sz (.slice A n c) n xs
 | .ob b o => base ≤ b ∧ w.heap[b]? = some o
structure Hp (w0 : World) (H : List HE) (w : World) : Prop where
 below : Below w0.heap.size w0 w
 own : ∀ x ∈ H, x.holds w0.heap.size w
 nd : (H.filterMap HE.id).Nodup
section
variable {w0 w w' : World} {H : List HE}
theorem Hp.start (w : World) : Hp w [] w := ⟨Below.refl _ _, fun _ h => (nomatch h), List.nodup_nil⟩
theorem Hp.size (h : Hp w0 H w) : w0.heap.size ≤ w.heap.size := h.below.size
theorem dX {base : Nat} {x : HE} (h : x.holds base w) {b : Nat} (hb : x.id = some b) : base ≤ b ∧ b < w.heap.size := by
 cases x with
 | blk b' t cs fz =>
  obtain rfl : b' = b := by simpa [HE.id] using hb
  refine ⟨h.1, ?_⟩
  rcases S6 b' w.heap.size with hlt | hge
  ·exact hlt
  ·have := h.2.1; rw [U5 hge] at this; cases this
 | row A n c t sz xs =>
  cases A with
  | none => simp [HE.id] at hb
  | some a => exact World.ownsRow.lt h b (by simpa [HE.id, Value.ownBlock] using hb)
 | ob b' o =>
  obtain rfl : b' = b := by simpa [HE.id] using hb
  refine ⟨h.1, ?_⟩
  rcases S6 b' w.heap.size with hlt | hge
  ·exact hlt
  ·have := h.2; rw [U5 hge] at this; cases this
theorem nG {base : Nat} {x : HE} (h : x.holds base w) (hk : ∀ b, x.id = some b → w'.heap[b]? = w.heap[b]?) : x.holds base w' := by
 cases x with
 | blk b t cs fz => exact ⟨h.1, (hk b rfl).trans h.2.1, h.2.2⟩
 | row A n c t sz xs =>
  obtain ⟨h1, h2⟩ := h;refine ⟨h1, ?_⟩
  rcases h2 with h2 | ⟨g, cap, cur, hv, hg, hh, r⟩
  ·exact .inl h2
  ·have hA : A = some ⟨g, 0, none⟩ := by injection hv
   subst hA;exact .inr ⟨g, cap, cur, hv, hg, (hk g rfl).trans hh, r⟩
 | ob b o => exact ⟨h.1, (hk b rfl).trans h.2⟩
theorem Hp.ext (h : Hp w0 H w) (hb : Below w.heap.size w w') : Hp w0 H w' :=
 ⟨h.below.trans (hb.mono h.size), fun x hx => nG (h.own x hx) fun _ hi => hb.block _ (dX (h.own x hx) hi).2, h.nd⟩
theorem Hp.sub (h : Hp w0 H w) {H' : List HE} (hs : H'.Sublist H) : Hp w0 H' w := ⟨h.below, fun x hx => h.own x (hs.subset hx), h.nd.sublist (hs.filterMap _)⟩
theorem Hp.at_ (h : Hp w0 H w) {i : Nat} {x : HE} (hi : H[i]? = some x) : x.holds w0.heap.size w := h.own x (Sp hi)
theorem Hp.aO (h : Hp w0 H w) (hb : Below w.heap.size w w') {x : HE} (hx : x.holds w.heap.size w') : Hp w0 (x :: H) w' := by
 have h' := h.ext hb;refine ⟨h'.below, ?_, ?_⟩
 ·intro y hy
  rcases SH.1 hy with rfl | hy
  ·cases y with
   | blk b t cs fz => exact ⟨SK h.size hx.1, hx.2⟩
   | row A n c t sz xs =>
    obtain ⟨h1, h2⟩ := hx;exact ⟨h1, h2.imp id fun ⟨g, cap, cur, hv, hg, r⟩ => ⟨g, cap, cur, hv, SK h.size hg, r⟩⟩
   | ob b o => exact ⟨SK h.size hx.1, hx.2⟩
  ·exact h'.own y hy
 ·rw [Ux];split
  ·exact h'.nd
  ·rename_i b hb';refine Uk.2 ⟨fun hm => ?_, h'.nd⟩;obtain ⟨y, hy, hyb⟩ := Tq.1 hm;have h1 := (dX hx hb').1;have h2 := (dX (h.own y hy) hyb).2;omega
theorem Hp.KE (h : Hp w0 H w) {i : Nat} {x y : HE} (hi : H[i]? = some x) (hid : ∀ b, y.id = some b → x.id = some b ∨ w.heap.size ≤ b)
  (hb : Below w0.heap.size w0 w') (hk : ∀ b, b < w.heap.size → x.id ≠ some b → w'.heap[b]? = w.heap[b]?) (hy : y.holds w0.heap.size w') : Hp w0 (H.set i y) w' := by
 obtain ⟨hlt, hx⟩ := SC.1 hi;have hsplit : H = H.take i ++ x :: H.drop (i + 1) := by
  rw [← hx, ← T4 hlt, To]
 have hset : H.set i y = H.take i ++ y :: H.drop (i + 1) := by rw [Vs, Sj hlt]
 have hnd := h.nd;rw [hsplit, VC] at hnd;have hother : ∀ z, z ∈ H.take i ∨ z ∈ H.drop (i + 1) → z ∈ H ∧ (∀ b, z.id = some b → x.id ≠ some b) := by
  intro z hz;refine ⟨hz.elim Uc VA, fun b hzb hxb => ?_⟩;rw [Ux, hxb] at hnd;simp only [] at hnd;rw [List.nodup_append] at hnd
  rcases hz with hz | hz
  ·exact hnd.2.2 b (Tq.2 ⟨z, hz, hzb⟩) b (Sq) rfl
  ·exact (Uk.1 hnd.2.1).1 (Tq.2 ⟨z, hz, hzb⟩)
 have hold : ∀ z, z ∈ H.take i ∨ z ∈ H.drop (i + 1) → z.holds w0.heap.size w' := fun z hz => by
  obtain ⟨hm, hne⟩ := hother z hz;exact nG (h.own z hm) fun b hzb => hk b (dX (h.own z hm) hzb).2 (hne b hzb)
 rw [hset];refine ⟨hb, ?_, ?_⟩
 ·intro z hz
  rcases S2.1 hz with hz | hz
  ·exact hold z (.inl hz)
  ·rcases SH.1 hz with rfl | hz
   ·exact hy
   ·exact hold z (.inr hz)
 ·rw [VC];have hsub : ((H.take i).filterMap HE.id ++ (H.drop (i + 1)).filterMap HE.id).Nodup := by
   refine hnd.sublist (List.Sublist.append (TJ _) ?_);exact List.Sublist.filterMap _ (Th _ _)
  rw [Ux];split
  ·exact hsub
  ·rename_i b hyb;have hfresh : ∀ z, z ∈ H.take i ∨ z ∈ H.drop (i + 1) → z.id ≠ some b := fun z hz hzb => by
    obtain ⟨hm, hne⟩ := hother z hz
    rcases hid b hyb with h1 | h1
    ·exact hne b hzb h1
    ·have := (dX (h.own z hm) hzb).2; omega
   rw [List.nodup_append] at hsub ⊢;refine ⟨hsub.1, Uk.2 ⟨fun hm => ?_, hsub.2.1⟩, fun u hu v hv => ?_⟩
   ·obtain ⟨z, hz, hzb⟩ := Tq.1 hm;exact hfresh z (.inr hz) hzb
   ·rcases SH.1 hv with rfl | hv
    ·rintro rfl;obtain ⟨z, hz, hzb⟩ := Tq.1 hu;exact hfresh z (.inl hz) hzb
    ·exact hsub.2.2 u hu v hv
end
section
variable {w0 w w' : World} {H : List HE}
theorem Hp.H9 (h : Hp w0 H w) {i b : Nat} {t : TypeId} {cs : List Value} {fz : Nat × Nat} (hi : H[i]? = some (.blk b t cs fz)) : Rd w ⟨b, 0, none⟩ cs := fun j u hu => by
 have h1 := (h.at_ hi).2.1;rw [eC, SM, cell_of_row w b j _ t fz h1];simpa using hu
theorem Hp.dW (h : Hp w0 H w) {i b o : Nat} {t : TypeId} {cs : List Value} {fz : Nat × Nat} {v : Value} (hi : H[i]? = some (.blk b t cs fz)) (hv : cs[o]? = some v) : w.cell? ⟨b, o, none⟩ = some v := by
 have := h.H9 hi o v hv;rwa [eC, SM] at this
theorem Hp.bH (h : Hp w0 H w) {i b o n : Nat} {t : TypeId} {cs vs : List Value} {fz : Nat × Nat} (hi : H[i]? = some (.blk b t cs fz)) (hv : (cs.drop o).take n = vs) : Rd w ⟨b, o, none⟩ vs := by
 have := ((h.H9 hi).drop o).take n;rwa [eC, SM, hv] at this
theorem mV {base : Nat} {t : TypeId} {A : Option Addr} {n c sz : Nat} {xs : List Value} (h : w.ownsRow base t sz (.slice A n c) n xs) : Sl w A n sz xs := by
 refine ⟨h.1, fun hn => ?_⟩;obtain ⟨g, cap, hv, _, hlt⟩ := h.form hn;have hA : A = some ⟨g, 0, none⟩ := by injection hv
 subst hA;exact ⟨_, rfl, h.cells (g := g) rfl⟩
theorem Hp.cD (h : Hp w0 H w) {i n c sz : Nat} {A : Option Addr} {t : TypeId} {xs : List Value} (hi : H[i]? = some (.row A n c t sz xs)) (hn : 0 < n) : ∃ g, A = some ⟨g, 0, none⟩ := by
 obtain ⟨g, cap, hv, _⟩ := World.ownsRow.form (h.at_ hi) hn;injection hv with hA
 exact ⟨g, hA⟩
theorem Hp.gk (h : Hp w0 H w) {i b n c sz o : Nat} {t : TypeId} {xs : List Value} {v : Value} (hi : H[i]? = some (.row (some ⟨b, 0, none⟩) n c t sz xs)) (hv : xs[o]? = some v) : w.cell? ⟨b, o, none⟩ = some v := by
 have := World.ownsRow.cells (h.at_ hi) (g := b) rfl o v hv;rwa [eC, SM] at this
theorem Hp.KH (h : Hp w0 H w) {i n c sz : Nat} {A : Option Addr} {t : TypeId} {xs : List Value} (hi : H[i]? = some (.row A n c t sz xs)) : xs.length = n * sz := (h.at_ hi).1
theorem Hp.aD (h : Hp w0 H w) {i n c sz : Nat} {A : Option Addr} {t : TypeId} {xs : List Value} (hi : H[i]? = some (.row A n c t sz xs)) : Sl w A n sz xs := mV (h.at_ hi)
end
section
variable {P : Program} {ρ : Rf} {w : World} {d : Option Nat} {ty : TypeId} {pos : String} {af : Array Edge} {g : Option (Nat × Bool)}
theorem BE {t : TypeId} {x : Operand} {ad : Addr} {n by' : Nat} {zc vs : List Value} (ht : dk P t = some (n, true, by', zc)) (hx : ev ρ x = .pointer (some ad)) (hr : Rd w ad vs) (hl : vs.length = n) :
  (execOp (ev ρ) ⟨d, .load t x, ty, pos, af, g⟩).run P w = .ok (.value (.agg vs.toArray)) w := by
 subst hl;simp [execOp, hx, Instr.loadAt, Instr.sureAddr, loadVar, iI ht, eP ht, run_loadCells_list (P := P) w ad vs hr]
theorem ju {t : TypeId} {x : Operand} {ad : Addr} {n by' : Nat} {zc : List Value} {v : Value} (ht : dk P t = some (n, false, by', zc)) (hx : ev ρ x = .pointer (some ad)) (hc : w.cell? ad = some v) :
  (execOp (ev ρ) ⟨d, .load t x, ty, pos, af, g⟩).run P w = .ok (.value v) w := by
 simp [execOp, hx, Instr.loadAt, Instr.sureAddr, loadVar, iI ht, run_load, hc]
theorem dz {t : TypeId} {ad : Addr} {n by' : Nat} {zc vs : List Value} (ht : dk P t = some (n, true, by', zc)) (hr : Rd w ad vs) (hl : vs.length = n) :
  (loadVar t ad).run P w = .ok (.agg vs.toArray) w := by
 subst hl;simp [loadVar, iI ht, eP ht, run_loadCells_list (P := P) w ad vs hr]
def gm (P : Program) (s : TypeId) (i : Nat) : Option (Nat × TypeId) :=
 match P.underlying s with
 | some (.struct fs) => match fs[i]? with
  | some f => if P.cellsOf f.type = 0 then none else some (f.offset, f.type)
  | none => none
 | _ => none
theorem qy {s : TypeId} {x : Operand} {f b o off : Nat} {ft : TypeId} (hf : gm P s f = some (off, ft)) (hx : ev ρ x = .pointer (some ⟨b, o, none⟩)) :
  (execOp (ev ρ) ⟨d, .fieldAddr s x f, ty, pos, af, g⟩).run P w = .ok (.value (.pointer (some ⟨b, o + off, none⟩))) w := by
 unfold gm at hf;split at hf
 ·rename_i fs hs;split at hf
  ·rename_i fd hfd;split at hf
   ·cases hf
   ·rename_i hc;simp only [T3, Prod.mk.injEq] at hf;obtain ⟨rfl, rfl⟩ := hf;have hsz : ∃ i, P.info? fd.type = some i ∧ i.size ≠ 0 := by
     exact O9
    obtain ⟨i, hi, hi0⟩ := hsz;simp [execOp, hx, Instr.fieldAt, run_underlying hs, hfd, Instr.sureAddr, fieldPlace, sizeOf, typeInfo, hi, hi0, eC]
  ·cases hf
 ·cases hf
theorem oC {s : TypeId} {x : Operand} {f off : Nat} {ad : Addr} {ft : TypeId} (hf : gm P s f = some (off, ft)) (hx : ev ρ x = .pointer (some ad)) :
  (execOp (ev ρ) ⟨d, .fieldAddr s x f, ty, pos, af, g⟩).run P w = .ok (.value (.pointer (some (ad.add off)))) w := by
 unfold gm at hf;split at hf
 ·rename_i fs hs;split at hf
  ·rename_i fd hfd;split at hf
   ·cases hf
   ·rename_i hc;simp only [T3, Prod.mk.injEq] at hf;obtain ⟨rfl, rfl⟩ := hf;have hsz : ∃ i, P.info? fd.type = some i ∧ i.size ≠ 0 := by
     exact O9
    obtain ⟨i, hi, hi0⟩ := hsz;simp [execOp, hx, Instr.fieldAt, run_underlying hs, hfd, Instr.sureAddr, fieldPlace, sizeOf, typeInfo, hi, hi0]
  ·cases hf
 ·cases hf
theorem Jw {s : TypeId} {x : Operand} {f off n by' : Nat} {ft : TypeId} {cs vs : Array Value} {zc : List Value} (hf : gm P s f = some (off, ft)) (ht : dk P ft = some (n, true, by', zc)) (hx : ev ρ x = .agg cs) (hv : cs.extract off (off + n) = vs) :
  (execOp (ev ρ) ⟨d, .field s x f, ty, pos, af, g⟩).run P w = .ok (.value (.agg vs)) w := by
 unfold gm at hf;split at hf
 ·rename_i fs hs;split at hf
  ·rename_i fd hfd;split at hf
   ·cases hf
   ·simp only [T3, Prod.mk.injEq] at hf;obtain ⟨rfl, rfl⟩ := hf;simp [execOp, hx, Instr.field, run_underlying hs, hfd, asAgg, part, iI ht, eP ht, hv]
  ·cases hf
 ·cases hf
end
section
variable {ro : Mode}
def bM (cs : List Value) (o : Nat) (vs : List Value) : List Value := cs.take o ++ vs ++ cs.drop (o + vs.length)
theorem fB {cs vs : List Value} {o : Nat} (h : o + vs.length ≤ cs.length) : (bM cs o vs).length = cs.length := by
 simp only [bM, Sr, SP, TT]; omega
theorem sC (cs : List Value) (o : Nat) : bM cs o [] = cs := by simp [bM]
theorem qG {cs vs : List Value} {o : Nat} {v : Value} (h : o + (v :: vs).length ≤ cs.length) : bM cs o (v :: vs) = bM (cs.set o v) (o + 1) vs := by
 simp only [SG] at h;have h0 : cs.set o v = cs.take o ++ v :: cs.drop (o + 1) := by rw [Vs, Sj Sd]
 have h2 : (cs.take o).length = o := by simp; omega
 have h1 : (cs.set o v).take (o + 1) = cs.take o ++ [v] := by
  rw [h0, List.take_append, h2, Su Sd];simp
 have h3 : (cs.set o v).drop (o + 1 + vs.length) = cs.drop (o + 1 + vs.length) := List.drop_set_of_lt Sd;unfold bM;rw [h1, h3];simp [U7, Uj 1]
theorem tU {a b c : World} {r : Option Nat} (h : a.grownBy b r) (k : b.grownBy c r) : a.grownBy c r :=
 ⟨k.os.trans h.os, k.tape.trans h.tape, k.output.trans h.output, SK h.size k.size, fun i hi hne => (k.block i (Tg hi h.size) hne).trans (h.block i hi hne)⟩
theorem zm (w : World) (b o : Nat) (v : Value) : w.grownBy (w.setCell ⟨b, o, none⟩ v) (some b) :=
 ⟨rfl, rfl, rfl, by simp [World.setCell], fun k _ hne => Below.heap_setCell w _ v k (fun e => hne (by rw [e]))⟩
section
variable {P : Program}
theorem gB {b : Nat} {t : TypeId} {fz : Nat × Nat} (o : Nat) : ∀ (vs : List Value) (i : Nat) (cs : List Value) (w : World), w.heap[b]? = some (.cells cs.toArray t fz) → (cs.length ≤ fz.1 ∨ fz.2 ≤ fz.1) →
  o + i + vs.length ≤ cs.length → (∀ v ∈ vs, v.oneCell' = true) →
  ∃ w', (storeCells ⟨b, o, none⟩ vs i).run P w = .ok () w' ∧ w'.heap[b]? = some (.cells (bM cs (o + i) vs).toArray t fz) ∧ w.grownBy w' (some b) ∧ w'.heap.size = w.heap.size
 | [], i, cs, w, hw, _, _, _ => ⟨w, by simp [storeCells], by rw [sC]; exact hw, World.grownBy.refl _ _, rfl⟩
 | v :: vs, i, cs, w, hw, hf, hl, h1 => by
  simp only [SG] at hl;have hoi : o + i < cs.length := Sd;have hc : w.cell? ⟨b, o + i, none⟩ = some cs[o + i] := by
   rw [cell_of_row w b (o + i) _ t fz hw];simp [Ts hoi]
  have hfr : w.frozen? ⟨b, o + i, none⟩ = false := by
   simp only [World.frozen?, hw]
   rcases hf with hf | hf <;> simp <;> omega
  have hw2 : (w.setCell ⟨b, o + i, none⟩ v).heap[b]? = some (.cells (cs.set (o + i) v).toArray t fz) := by
   simp [World.setCell, Array.getElem?_modify, hw]
  obtain ⟨w', hr, hb', hg, hs⟩ := gB (b := b) (t := t) (fz := fz) o vs (i + 1) (cs.set (o + i) v) _ hw2 (by simpa using hf) (by simp; omega) (fun u hu => h1 u (SA _ hu));refine ⟨w', ?_, ?_, tU (zm w b (o + i) v) hg, hs.trans (by simp [World.setCell])⟩
  ·simp only [storeCells, Sem.run_bind, eC, run_store P w ⟨b, o + i, none⟩ v .plain (h1 v (Sq)), hc, hfr];simpa using hr
  ·rw [qG (by simp; omega)];exact hb'
end
def kz (pl : Nat → Option (Nat × Nat)) : List Value → List (Nat × Value) → Option (List Value)
 | cs, [] => some cs
 | cs, (i, v) :: r =>
  match pl i with
  | none => none
  | some (off, size) => if v.cells.toList.length ≠ size ∨ cs.length < off + v.cells.toList.length then none else kz pl (bM cs off v.cells.toList) r
theorem n6 : ∀ (vs : List Value) (k o : Nat) (cs : List Value), o + k + vs.length ≤ cs.length →
  (vs.zipIdx k).foldl (fun (cs : Array Value) (x : Value × Nat) => cs.setIfInBounds (o + x.2) x.1) cs.toArray = (bM cs (o + k) vs).toArray
 | [], k, o, cs, _ => by simp [sC]
 | v :: vs, k, o, cs, h => by
  rw [List.zipIdx_cons, Vq];simp only [List.setIfInBounds_toArray];rw [n6 vs (k + 1) o (cs.set (o + k) v) (by simp at h ⊢; omega), qG (by simp at h ⊢; omega)]
  rfl
theorem wb {pl : Nat → Option (Nat × Nat)} : ∀ (ps : List (Nat × Value)) (zs cs : List Value), kz pl zs ps = some cs → Instr.fill pl zs.toArray ps = some cs.toArray
 | [], zs, cs, h => by simp only [kz, T3] at h; subst h; rfl
 | (i, v) :: r, zs, cs, h => by
  unfold kz at h;unfold Instr.fill;split at h
  ·cases h
  ·rename_i off size hpl;split at h
   ·cases h
   ·rename_i hc;simp only [ne_eq, not_or, Decidable.not_not, Nat.not_lt] at hc;simp only [hpl];have h1 : ¬ ((v.cells.size ≠ size || decide (off + v.cells.size > zs.toArray.size)) = true) := by
     have e : v.cells.size = v.cells.toList.length := by simp
     simp only [e, hc.1, US, Uu, SJ, ne_eq, not_true, decide_false, Vd, false_or];omega
    rw [Si h1];have h2 : v.cells.zipIdx.foldl (fun (cs : Array Value) (x : Value × Nat) => cs.setIfInBounds (off + x.2) x.1) zs.toArray = (bM zs off v.cells.toList).toArray := by
     have := n6 v.cells.toList 0 off zs Sd;rw [TB] at this;rw [← this, ← Array.foldl_toList, Array.toList_zipIdx]
    exact (Tm (fun x => Instr.fill pl x r) h2).trans (wb r _ cs h)
def gd : Nat → List Value → List Value
 | 0, _ => []
 | n + 1, zc => zc ++ gd n zc
theorem iW (n : Nat) (zc : List Value) : (gd n zc).length = n * zc.length := by
 induction n with
 | zero => simp [gd]
 | succ n ih => simp [gd, ih, Up, Uj]
theorem vR : ∀ (n : Nat) (zc : List Value) (i : Nat), i < n * zc.length → (gd n zc)[i]? = zc[i % zc.length]?
 | 0, zc, i, h => by simp at h
 | n + 1, zc, i, h => by
  unfold gd
  rcases S6 i zc.length with hi | hi
  ·rw [UM hi, SY hi]
  ·rw [Tu hi, vR n zc (i - zc.length) (by rw [Up] at h; omega)];congr 1;rw [Nat.mod_eq_sub_mod hi]
theorem sc (n : Nat) (zc : List Value) : (Array.range (n * zc.length)).map (fun i => zc.toArray[i % zc.length]!) = (gd n zc).toArray := by
 apply Array.ext_getElem?;intro i
 rcases S6 i (n * zc.length) with h | h
 ·have hpos : 0 < zc.length := by
   rcases T8 zc.length with h0 | h0
   ·rw [h0] at h; omega
   ·exact h0
  have hm : i % zc.length < zc.length := SO _ hpos;simp [h, vR n zc i h, Ts hm]
 ·have h2 : (gd n zc).length ≤ i := by rw [iW]; exact h
  simp [h2, h]
def yb (ρ : Rf) : List (Nat × Operand) → List (Nat × Value)
 | [] => []
 | (i, x) :: l => (i, ev ρ x) :: yb ρ l
theorem Cv {ρ : Rf} (parts : Array (Nat × Operand)) {ps : List (Nat × Value)} (h : yb ρ parts.toList = ps) : (parts.map fun (i, x) => (i, ev ρ x)) = ps.toArray := by
 have h1 : ∀ l : List (Nat × Operand), l.map (fun (i, x) => (i, ev ρ x)) = yb ρ l := by
  intro l
  induction l with
  | nil => rfl
  | cons a l ih => simp only [SW, ih]; rfl
 subst h;rw [← h1];apply Array.ext';simp
section
variable {P : Program} {N : Nat} {ops : Array Oper} {Q : Kq} {ρ : Rf} {w w0 : World} {rest : List Oper} {H : List HE} {d : Nat} {ty : TypeId} {pos : String} {af : Array Edge}
theorem tj {w' : World} {r : Option Nat} (h : Below w0.heap.size w0 w) (hg : w.grownBy w' r) (hr : ∀ k, r = some k → w0.heap.size ≤ k) : Below w0.heap.size w0 w' := h.grown hg h.size hr
theorem Hp.grown {w' : World} {x y : HE} {i : Nat} (h : Hp w0 H w) (hi : H[i]? = some x) (hg : w.grownBy w' x.id) (hid : y.id = x.id ∨ y.id = none ∨ y.id = some w.heap.size) (hy : y.holds w0.heap.size w') : Hp w0 (H.set i y) w' := by
 refine h.KE hi (fun b hb => ?_) (tj h.below hg fun k hk => (dX (h.at_ hi) hk).1) (fun b hlt hne => hg.block b hlt (fun e => hne e.symm)) hy
 rcases hid with e | e | e
 ·exact .inl (by rw [← e]; exact hb)
 ·rw [e] at hb; cases hb
 ·rw [e] at hb;injection hb with hb
  exact .inr Sd
theorem Hp.dL (h : Hp w0 H w) (t : TypeId) (sz : Nat) : Hp w0 (.row none 0 0 t sz [] :: H) w :=
 ⟨h.below, fun x hx => by
  rcases SH.1 hx with rfl | hx
  ·exact World.ownsRow_nil _ _ _ _
  ·exact h.own x hx, by show (List.filterMap HE.id H).Nodup; exact h.nd⟩
theorem Hp.Dt (h : Hp w0 H w) (t : TypeId) (cs : List Value) : Hp w0 (.blk w.heap.size t cs (0, 0) :: H) (w.alloc (.cells cs.toArray t)) :=
 h.aO ((Below.refl _ _).alloc (So _) _) ⟨So _, heap_alloc_new w _, .inr (So _)⟩
theorem Hp.CK (h : Hp w0 H w) (t : TypeId) (sz n : Nat) (cs : List Value) (hl : cs.length = n * sz) (hn : n ≤ maxLen) : Hp w0 (.row (some ⟨w.heap.size, 0, none⟩) n n t sz cs :: H) (w.alloc (.cells cs.toArray t)) :=
 h.aO ((Below.refl _ _).alloc (So _) _) ⟨hl, .inr ⟨w.heap.size, n, cs.toArray, rfl, So _, heap_alloc_new w _, So _, hn, by simpa using hl, by simp only [Su (show cs.length ≤ n * sz by omega)]⟩⟩
theorem NJ (hh : Hp w0 H w) {t : TypeId} {x : Operand} {cs : List Value} {v : Value} (hx : ev ρ x = v) (hc : v.cells = cs.toArray) (hN : d < N)
  (k : ∀ b w', Hp w0 (.blk b t cs (0, 0) :: H) w' → WL ro P N ops Q rest (cx ρ d (.pointer (some ⟨b, 0, none⟩))) w') : WL ro P N ops Q (⟨some d, .box t x, ty, pos, af, none⟩ :: rest) ρ w :=
 aM rfl rfl hN (w' := w.alloc (.cells cs.toArray t)) (v := .pointer (some ⟨w.heap.size, 0, none⟩)) (by simp [execOp, hx, Instr.box, newVar, newRow, hc]) (k _ _ (hh.Dt t cs))
theorem Gp (hh : Hp w0 H w) {t : TypeId} {n by' : Nat} {ag : Bool} {zc : List Value} (ht : dk P t = some (n, ag, by', zc)) (hN : d < N)
  (k : ∀ b w', Hp w0 (.blk b t zc (0, 0) :: H) w' → WL ro P N ops Q rest (cx ρ d (.pointer (some ⟨b, 0, none⟩))) w') : WL ro P N ops Q (⟨some d, .alloc t, ty, pos, af, none⟩ :: rest) ρ w := by
 obtain ⟨z, hz, hzc⟩ := dY (w := w) ht;exact aM rfl rfl hN (w' := w.alloc (.cells zc.toArray t)) (v := .pointer (some ⟨w.heap.size, 0, none⟩)) (by simp [execOp, Instr.alloc, newVar, newRow, hz, hzc]) (k _ _ (hh.Dt t zc))
theorem HP (hh : Hp w0 H w) {t t' : TypeId} {x y : Operand} {i b o n by' : Nat} {ag : Bool} {zc cs vs : List Value} {fz : Nat × Nat} {v : Value} (hx : ev ρ x = .pointer (some ⟨b, o, none⟩)) (hi : H[i]? = some (.blk b t' cs fz))
  (hy : ev ρ y = v) (hc : v.cells = vs.toArray) (ht : dk P t = some (n, ag, by', zc)) (hl : vs.length = n) (ho : o + n ≤ cs.length) (h1 : (vs.all Value.oneCell') = true)
  (k : ∀ w', Hp w0 (H.set i (.blk b t' (bM cs o vs) fz)) w' → WL ro P N ops Q rest ρ w') : WL ro P N ops Q (⟨none, .store t x y, ty, pos, af, none⟩ :: rest) ρ w := by
 have hb := hh.at_ hi;obtain ⟨w', hr, hb', hg, hs⟩ := gB (P := P) (b := b) (t := t') (fz := fz) o vs 0 cs w hb.2.1 hb.2.2 Sd (by simpa using h1);refine Du rfl rfl (w' := w') ?_ (k w' (hh.grown hi hg (.inl rfl) ⟨hb.1, by simpa using hb', by rw [fB Sd]; exact hb.2.2⟩));simp [execOp, hx, hy, Instr.storeAt, Instr.sureAddr, storeVar, eP ht, hl, hc, hr]
theorem bY (hh : Hp w0 H w) {t t' : TypeId} {x y : Operand} {i b o n m c sz by' : Nat} {ag : Bool} {zc xs vs : List Value} {v : Value} (hx : ev ρ x = .pointer (some ⟨b, o, none⟩)) (hi : H[i]? = some (.row (some ⟨b, 0, none⟩) m c t' sz xs))
  (hy : ev ρ y = v) (hc : v.cells = vs.toArray) (ht : dk P t = some (n, ag, by', zc)) (hl : vs.length = n) (ho : o + n ≤ xs.length) (h1 : (vs.all Value.oneCell') = true)
  (k : ∀ w', Hp w0 (H.set i (.row (some ⟨b, 0, none⟩) m c t' sz (bM xs o vs))) w' → WL ro P N ops Q rest ρ w') : WL ro P N ops Q (⟨none, .store t x y, ty, pos, af, none⟩ :: rest) ρ w := by
 have hrow := hh.at_ hi;obtain ⟨hlen, h2⟩ := hrow
 rcases h2 with ⟨h2, _⟩ | ⟨g, cap, cur, hv, hg, hheap, hmc, hcm, hcur, htake⟩
 ·injection h2 with h2; cases h2
 ·injection hv with hA hn hcap
  injection hA with hA
  injection hA with hA
  subst hA; subst hcap;have hcl : cur.size = cur.toList.length := by simp
  have hle : m * sz ≤ c * sz := S9 _ hmc;obtain ⟨w', hr, hb', hgr, hs⟩ := gB (P := P) (b := b) (t := t') (fz := (0, 0)) o vs 0 cur.toList w (by simpa using hheap) (.inr (So _)) (by rw [← hcl]; omega) (by simpa using h1);refine Du rfl rfl (w' := w') ?_ (k w' (hh.grown hi hgr (.inl rfl) ⟨by rw [fB Sd]; exact hlen, .inr ⟨b, c, (bM cur.toList o vs).toArray, rfl, hg, by simpa using hb', hmc, hcm, ?_, ?_⟩⟩))
  ·simp [execOp, hx, hy, Instr.storeAt, Instr.sureAddr, storeVar, eP ht, hl, hc, hr]
  ·simp only [US];rw [fB (by rw [← hcl]; omega), ← hcl, hcur]
  ·exact N3
theorem dr (hh : Hp w0 H w) {t e : TypeId} {len sz by' : Nat} {ag : Bool} {parts : Array (Nat × Operand)} {ps : List (Nat × Value)} {zc cs : List Value} (ht : P.underlying t = some (.slice e)) (hte : dk P e = some (sz, ag, by', zc))
  (hp : yb ρ parts.toList = ps) (hzl : zc.length = sz) (hf : kz (fun i => some (i * sz, sz)) (gd len zc) ps = some cs) (h0 : ¬ len * sz = 0) (hle : len ≤ 1000) (hsl : len * sz ≤ 16777216) (hl : cs.length = len * sz) (hN : d < N)
  (k : ∀ b w', Hp w0 (.row (some ⟨b, 0, none⟩) len len e sz cs :: H) w' → WL ro P N ops Q rest (cx ρ d (.slice (some ⟨b, 0, none⟩) len len)) w') : WL ro P N ops Q (⟨some d, .buildSlice t len parts, ty, pos, af, none⟩ :: rest) ρ w := by
 obtain ⟨z, hz, hzc⟩ := dY (w := w) hte;refine aM rfl rfl hN (w' := w.alloc (.cells cs.toArray e)) (v := .slice (some ⟨w.heap.size, 0, none⟩) len len) ?_ (k _ _ (hh.CK e sz len cs hl (by unfold maxLen; omega)));exact O8
def oa (P : Program) (t : TypeId) : Option (List (Nat × Nat)) :=
 match P.underlying t with
 | some (.struct fs) => fs.toList.mapM fun f => (P.info? f.type).map fun i => (f.offset, i.size)
 | _ => none
theorem sY {P : Program} {w : World} : ∀ (l : List Field) (pl : List (Nat × Nat)), (l.mapM fun f => (P.info? f.type).map fun i => (f.offset, i.size)) = some pl →
  (l.mapM (m := Sem) fun f => do pure (f.offset, ← sizeOf f.type)).run P w = .ok pl w
 | [], pl, h => by
  simp at h; subst h; simp
 | f :: l, pl, h => by
  rw [List.mapM_cons] at h
  cases hi : P.info? f.type with
  | none => simp [hi] at h
  | some i =>
   cases hr : l.mapM (fun f => (P.info? f.type).map fun i => (f.offset, i.size)) with
   | none => simp [hr] at h
   | some pl' =>
    simp [hi, hr] at h;have ih := sY (w := w) l pl' hr;have hs : (sizeOf f.type).run P w = .ok i.size w := by simp [sizeOf, typeInfo, hi]
    rw [List.mapM_cons, Sem.run_bind, Sem.run_bind, hs, Result.andThen_ok, Sem.run_pure, Result.andThen_ok, Sem.run_bind, ih, Result.andThen_ok, Sem.run_pure, h]
theorem q9 {dd : Option Nat} {g : Option (Nat × Bool)} {t : TypeId} {n by' : Nat} {parts : Array (Nat × Operand)} {ps : List (Nat × Value)} {zc cs : List Value} {pl : List (Nat × Nat)} (hte : dk P t = some (n, true, by', zc))
  (hpl : oa P t = some pl)
  (hp : yb ρ parts.toList = ps) (hf : kz (pl[·]?) zc ps = some cs) :
  (execOp (ev ρ) ⟨dd, .build t parts, ty, pos, af, g⟩).run P w = .ok (.value (.agg cs.toArray)) w := by
 obtain ⟨z, hz, hzc⟩ := dY (w := w) hte;unfold oa at hpl;split at hpl
 ·rename_i fs hfs;have h1 := sY (w := w) _ _ hpl;have h2 : (fs.mapM (m := Sem) fun f => do pure (f.offset, ← sizeOf f.type)).run P w = .ok pl.toArray w := by
   have e : fs = fs.toList.toArray := by simp
   rw [e, List.mapM_toArray, Sem.run_map, h1]
   rfl
  have hf' := wb _ _ _ hf;have hpp : (fun (x : Nat) => pl.toArray[x]?) = fun x => pl[x]? := by funext x; simp
  have hp' := Cv parts hp;simp only [execOp, hp', Instr.build, Sem.run_bind, hz, Result.andThen_ok, run_underlying hfs, h2, hzc, hpp, hf', Sem.run_pure]
 ·cases hpl
end
end
section
variable {ro : Mode}
theorem g9 (A : Option Addr) (n c : Nat) : (Value.slice A n c).ownBlock = A.map (·.block) := by cases A <;> rfl
theorem xX (n : Nat) (z : Value) : gd n [z] = List.replicate n z := by
 induction n with
 | zero => rfl
 | succ n ih => simp [gd, ih, UC]
theorem jQ {w : World} {ad : Addr} {xs : List Value} {m : Int} {k : Nat} {v : Value} (h : Rd w ad xs) (hx : xs[k]? = some v) (hm : m = (k : Int)) : w.cell? (ad.add (m.toNat * 1)) = some v := by
 subst hm;simpa using h k v hx
def nQ (l : List UInt8) : List Value := l.map fun c => .int .u8 c.toNat
theorem tO (l : List UInt8) : (nQ l).length = l.length := by simp [nQ]
section
variable {P : Program} {w : World}
theorem nZ (base : Nat) (t ty e : TypeId) (i : TypeInfo) (ht : P.underlying t = some (.slice e)) (hi : P.info? e = some i)
  (v : Value) (n : Nat) (xs : List Value) (sz : Nat) (hown : w.ownsRow base e sz v n xs) (c : Nat) : (Builtin.append_ #[t, t] ty #[v, .slice none 0 c]).run P w = .ok v w := by
 rcases hown.2 with ⟨rfl, rfl⟩ | ⟨g, cap, cur, rfl, _, _, hnc, _⟩
 ·simp [Builtin.append_, run_underlying ht, sizeOf, typeInfo, hi, Builtin.lenOf, Builtin.firstCells]
 ·simp [Builtin.append_, run_underlying ht, sizeOf, typeInfo, hi, Builtin.lenOf, Builtin.firstCells, hnc, storeCells]
theorem uj (base : Nat) (t ty e : TypeId) (sz by' : Nat) (ag : Bool) (zc : List Value) (ht : P.underlying t = some (.slice e)) (hte : dk P e = some (sz, ag, by', zc)) (hzl : zc.length = sz) (hsz : 0 < sz)
  (A : Option Addr) (n c : Nat) (xs : List Value) (hown : w.ownsRow base e sz (.slice A n c) n xs) (B : Option Addr) (m c' : Nat) (news : List Value) (hsl : Sl w B m sz news) (h1 : ∀ u ∈ news, u.oneCell' = true)
  (h63 : n + m ≤ maxLen) (hbytes : (n + m) * by' ≤ 140737488355328) (hbase : base ≤ w.heap.size) :
  ∃ A' c2 w', (Builtin.append_ #[t, t] ty #[.slice A n c, .slice B m c']).run P w = .ok (.slice A' (n + m) c2) w' ∧ w'.ownsRow base e sz (.slice A' (n + m) c2) (n + m) (xs ++ news) ∧
   w.grownBy w' (A.map (·.block)) ∧ (A'.map (·.block) = A.map (·.block) ∨ A'.map (·.block) = none ∨ A'.map (·.block) = some w.heap.size) := by
 obtain ⟨i, z, d, hi, hd, hz, hs, hby, hzc, _⟩ := eW hte;have hzs : z.cells.size = sz := by rw [hzc]; simpa using hzl
 have fin : ∀ (ad : Addr), B = some ad → Rd w ad news → ∃ A' c2 w', (Builtin.append_ #[t, t] ty #[.slice A n c, .slice B m c']).run P w = .ok (.slice A' (n + m) c2) w' ∧ w'.ownsRow base e sz (.slice A' (n + m) c2) (n + m) (xs ++ news) ∧
   w.grownBy w' (A.map (·.block)) ∧ (A'.map (·.block) = A.map (·.block) ∨ A'.map (·.block) = none ∨ A'.map (·.block) = some w.heap.size) := by
  rintro ad rfl hr;obtain ⟨v', w', hrun, h2, h3, _, h5⟩ := run_append_own_at (P := P) w base t ty e i z sz by' ht hi hz hs hby hzs hsz (.slice A n c) n xs hown ad m c' news hsl.1 hr h1 h63 hbytes hbase;rw [g9] at h3
  rcases h2.2 with ⟨hv, h0⟩ | ⟨g, cap, cur, hv, r⟩
  ·subst hv;refine ⟨none, 0, w', by rw [hrun, h0], by rw [h0]; exact h0 ▸ h2, h3, .inr (.inl rfl)⟩
  ·subst hv;refine ⟨_, _, w', hrun, h2, h3, ?_⟩
   rcases h5 with h5 | h5
   ·exact .inl (by rw [← g9 _ (n + m) cap, h5, g9])
   ·exact .inr (.inr (by rw [← g9 _ (n + m) cap, h5]))
 rcases T8 m with h0 | h0
 ·subst h0;have hnews : news = [] := TW (by simpa using hsl.1);subst hnews
  cases B with
  | none => exact ⟨A, c, w, nZ base t ty e i ht hi _ n xs sz hown c', by simpa using hown, World.grownBy.refl _ _, .inl rfl⟩
  | some ad => exact fin ad rfl (fun j u hu => by simp at hu)
 ·obtain ⟨ad, hB, hr⟩ := hsl.2 h0;exact fin ad hB hr
theorem uf {A : Option Addr} {n c : Nat} {l : List UInt8} (h : Sl w A n 1 (nQ l)) : (Conv.bytesToString (.slice A n c)).run P w = .ok (.string ⟨l.toArray⟩) w := by
 have hn : l.length = n := by have := h.1; rw [tO] at this; omega
 cases A with
 | none =>
  have h0 : n = 0 := by
   rcases T8 n with h0 | h0
   ·exact h0
   ·obtain ⟨ad, h1, _⟩ := h.2 h0; cases h1
  have : l = [] := TW Sd;subst this;simp [Conv.bytesToString, ByteArray.empty, ByteArray.emptyWithCapacity]
  rfl
 | some a =>
  have hr : Rd w a (nQ l) := by
   rcases T8 n with h0 | h0
   ·have : l = [] := TW Sd;subst this;intro j u hu; simp [nQ] at hu
   ·obtain ⟨ad, h1, h2⟩ := h.2 h0;injection h1 with h1; subst h1; exact h2
  have e1 : nQ l = (l.map fun c : UInt8 => (c.toNat : Int)).map (Value.int .u8) := by simp [nQ]
  have hld := run_loadCells_list (P := P) w a (nQ l) hr;rw [tO, hn, e1] at hld;rw [run_bytesToString w a n c _ hld];congr 2;have : ∀ (l : List UInt8) (s : ByteArray), (l.map fun c : UInt8 => (c.toNat : Int)).foldl (fun r n => r.push (UInt8.ofNat n.toNat)) s = ⟨s.data ++ l.toArray⟩ := by
   intro l
   induction l with
   | nil => intro s; simp
   | cons c l ih =>
    intro s;simp only [SW, Vq];rw [ih];have : (s.push (UInt8.ofNat ((c.toNat : Int)).toNat)).data = s.data.push c := by simp [ByteArray.push]
    rw [this];congr 1;apply Array.ext';simp
  rw [this];congr 1;apply Array.ext';simp [ByteArray.empty, ByteArray.emptyWithCapacity]
  rfl
end
section
variable {P : Program} {N : Nat} {ops : Array Oper} {Q : Kq} {ρ : Rf} {w w0 : World} {rest : List Oper} {H : List HE} {d : Nat} {ty : TypeId} {pos : String} {af : Array Edge}
theorem cR (hh : Hp w0 H w) {t e : TypeId} {s x : Operand} {i n c m c' sz by' : Nat} {ag : Bool} {A B : Option Addr} {zc xs news : List Value} (hi : H[i]? = some (.row A n c e sz xs)) (hs : ev ρ s = .slice A n c) (hx : ev ρ x = .slice B m c')
  (hsl : Sl w B m sz news) (ht : P.underlying t = some (.slice e)) (hte : dk P e = some (sz, ag, by', zc)) (hzl : zc.length = sz) (hsz : 0 < sz) (h1 : (news.all Value.oneCell') = true)
  (h63 : n + m ≤ 9223372036854775807) (hbytes : (n + m) * by' ≤ 140737488355328) (hN : d < N)
  (k : ∀ A' c2 w', Hp w0 (H.set i (.row A' (n + m) c2 e sz (xs ++ news))) w' → WL ro P N ops Q rest (cx ρ d (.slice A' (n + m) c2)) w') :
  WL ro P N ops Q (⟨some d, .call ⟨.builtin .append, #[s, x], #[t, t]⟩, ty, pos, af, none⟩ :: rest) ρ w := by
 obtain ⟨A', c2, w', hr, hown, hg, hid⟩ := uj (P := P) w0.heap.size t ty e sz by' ag zc ht hte hzl hsz A n c xs (hh.at_ hi) B m c' news hsl (by simpa using h1) (by unfold maxLen; omega) hbytes hh.size;refine aM rfl rfl hN (w' := w') (v := .slice A' (n + m) c2) ?_ (k A' c2 w' (hh.grown hi hg hid hown));simp only [execOp, resolve, invoke, builtin, Sem.run_bind, Sem.run_pure, Result.andThen_ok, List.map_toArray, SW, Tx, hs, hx, hr]
theorem gD (hh : Hp w0 H w) {t e : TypeId} {l cp : Operand} {kl kc : IntKind} {L C : Int} {n sz by' : Nat} {ag : Bool} {zc : List Value} (hl : ev ρ l = .int kl L) (hc : ev ρ cp = .int kc C) (hL : L = (n : Int)) (hC : C = (n : Int))
  (ht : P.underlying t = some (.slice e)) (hte : dk P e = some (sz, ag, by', zc)) (hzl : zc.length = sz) (hb : by' * n ≤ 281474976710656) (h63 : n ≤ 9223372036854775807) (hN : d < N)
  (k : ∀ b w', Hp w0 (.row (some ⟨b, 0, none⟩) n n e sz (gd n zc) :: H) w' → WL ro P N ops Q rest (cx ρ d (.slice (some ⟨b, 0, none⟩) n n)) w') :
  WL ro P N ops Q (⟨some d, .makeSlice t l cp, ty, pos, af, none⟩ :: rest) ρ w := by
 obtain ⟨i, z, dd, hi, hd, hz, hs, hby, hzc, _⟩ := eW hte;subst hL; subst hC;obtain ⟨w', hr, hown, hg⟩ := run_make_full (P := P) w w.heap.size t e i z sz ht hi hz hs kl kc n (by rw [hby]; exact hb) (by unfold maxLen; omega) (So _);have hzz : (madeCells z.cells (n * sz)).toList = gd n zc := by
  exact Oc
 rw [hzz] at hown;refine aM rfl rfl hN (w' := w') (v := .slice (some ⟨w.heap.size, 0, none⟩) n n) ?_ (k _ w' (hh.aO ⟨hg.os, hg.tape, hg.output, hg.size, fun j hj => hg.block j hj (by simp)⟩ hown));simp [execOp, hl, hc, hr]
theorem jV (hh : Hp w0 H w) {t e : TypeId} {sz by' : Nat} {ag : Bool} {zc : List Value} (ht : P.underlying t = some (.slice e)) (hte : dk P e = some (sz, ag, by', zc)) (hN : d < N)
  (k : ∀ b w', Hp w0 (.row (some ⟨b, 0, none⟩) 0 0 e sz [] :: H) w' → WL ro P N ops Q rest (cx ρ d (.slice (some ⟨b, 0, none⟩) 0 0)) w') : WL ro P N ops Q (⟨some d, .buildSlice t 0 #[], ty, pos, af, none⟩ :: rest) ρ w := by
 refine aM rfl rfl hN (w' := w.alloc (.cells #[] e)) (v := .slice (some ⟨w.heap.size, 0, none⟩) 0 0) ?_ (k _ _ (hh.CK e sz 0 [] (by simp) (by unfold maxLen; omega)));have e0 : Array.range 0 = #[] := rfl;simp [execOp, Instr.buildSlice, run_underlying ht, eP hte, Instr.fill, newRow, e0]
theorem me {dd : Option Nat} {g : Option (Nat × Bool)} {s t e : TypeId} {x : Operand} {A : Option Addr} {n c : Nat} {l : List UInt8} (hs : P.underlying s = some (.slice e)) (he : P.underlying e = some (.int .u8)) (ht : P.underlying t = some .string)
  (hx : ev ρ x = .slice A n c) (h : Sl w A n 1 (nQ l)) : (execOp (ev ρ) ⟨dd, .convert s t x, ty, pos, af, g⟩).run P w = .ok (.value (.string ⟨l.toArray⟩)) w := by
 simp [execOp, hx, run_convert_bytes_string w s t e A n c hs he ht, uf h]
theorem xv (hh : Hp w0 H w) {t : TypeId} {x : Operand} {s : ByteArray} (ht : P.underlying t = some .string) (hx : ev ρ x = .string s) (hN : d < N)
  (k : ∀ b w', Hp w0 (.it b s 0 :: H) w' → WL ro P N ops Q rest (cx ρ d (.pointer (some ⟨b, 0, none⟩))) w') : WL ro P N ops Q (⟨some d, .range t x, ty, pos, af, none⟩ :: rest) ρ w := by
 refine aM rfl rfl hN (w' := w.alloc (.stringIter s 0)) (v := .pointer (some ⟨w.heap.size, 0, none⟩)) (by simp [execOp, hx, Instr.range, run_underlying ht]) (k _ _ (hh.aO ((Below.refl _ _).alloc (So _) _) ⟨So _, heap_alloc_new w _⟩))
theorem xa (hh : Hp w0 H w) {x : Operand} {i b p : Nat} {s : ByteArray} (hi : H[i]? = some (.it b s p)) (hx : ev ρ x = .pointer (some ⟨b, 0, none⟩)) (hp : ¬ p < s.size) (hN : d < N)
  (k : WL ro P N ops Q rest (cx ρ d (.tuple #[.bool false])) w) : WL ro P N ops Q (⟨some d, .next x true, ty, pos, af, none⟩ :: rest) ρ w := by
 have h1 := (hh.at_ hi).2;refine aM rfl rfl hN (w' := w) (v := .tuple #[.bool false]) ?_ k;simp [execOp, hx, Instr.next, getObj, Sem.run, h1, hp]
theorem xc (hh : Hp w0 H w) {x : Operand} {i b p : Nat} {s : ByteArray} {c : UInt8} (hi : H[i]? = some (.it b s p)) (hx : ev ρ x = .pointer (some ⟨b, 0, none⟩)) (hc : s.data.toList[p]? = some c) (h128 : c.toNat < 128) (hN : d < N)
  (k : ∀ w', Hp w0 (H.set i (.it b s (p + 1))) w' → WL ro P N ops Q rest (cx ρ d (.tuple #[.bool true, .int .i64 p, .int .i32 c.toNat])) w') : WL ro P N ops Q (⟨some d, .next x true, ty, pos, af, none⟩ :: rest) ρ w := by
 have h1 := (hh.at_ hi).2;obtain ⟨hlt, hcc⟩ := SC.1 hc;have hlt' : p < s.size := by simpa using hlt
 have hget : s.get! p = c := by
  have : s.get! p = s.data[p]! := rfl;rw [this, getElem!_pos s.data p hlt'];simpa using hcc
 have hdec : Utf8.decode s p = (c.toNat, 1) := by
  unfold Utf8.decode;simp only [TB, hget];rw [Sj h128]
 let w' : World := { w with heap := w.heap.setIfInBounds b (.stringIter s (p + 1)) }
 have hb := dX (hh.at_ hi) (b := b) rfl;have hg : w.grownBy w' (some b) := ⟨rfl, rfl, rfl, by simp [w'], fun k _ hne => by
  show (w.heap.setIfInBounds b _)[k]? = _;rw [Array.getElem?_setIfInBounds_ne (fun e => hne (by rw [e]))]⟩
 refine aM rfl rfl hN (w' := w') (v := .tuple #[.bool true, .int .i64 p, .int .i32 c.toNat]) ?_ (k w' (hh.grown hi hg (.inl rfl) ⟨hb.1, ?_⟩))
 ·simp [execOp, hx, Instr.next, getObj, setObj, Sem.run, h1, hlt', hdec, goInt, w']
 ·show (w.heap.setIfInBounds b _)[b]? = _;simp [hb.2]
end
end
class UK (k : IntKind) (b : outParam Nat) (M : outParam Nat) : Prop where
 bits : k.bits = b
 sgn : k.signed = false
 pow : 2 ^ b = M
instance : UK .u8 8 256 := ⟨rfl, rfl, rfl⟩
instance : UK .u16 16 65536 := ⟨rfl, rfl, rfl⟩
instance : UK .u32 32 4294967296 := ⟨rfl, rfl, rfl⟩
instance : UK .u64 64 18446744073709551616 := ⟨rfl, rfl, rfl⟩
theorem UK.wrap {k : IntKind} {b M : Nat} [h : UK k b M] (n : Nat) : k.wrap (n : Int) = ((n % M : Nat) : Int) := by
 unfold IntKind.wrap;have hM : (2 : Int) ^ k.bits = (M : Int) := by rw [h.bits, ← h.pow]; simp
 simp only [h.sgn, hM, Bool.false_and];simp
theorem UK.oe {k : IntKind} {b M : Nat} [UK k b M] {n : Nat} (hn : n < M) : k.wrap (n : Int) = (n : Int) := by rw [UK.wrap, SY hn]
theorem UK.wrap_add {k : IntKind} {b M : Nat} [h : UK k b M] (z : Int) : k.wrap (z + M) = k.wrap z := by
 unfold IntKind.wrap;have hM : (2 : Int) ^ k.bits = (M : Int) := by rw [h.bits, ← h.pow]; simp
 simp [hM]
section
variable {P : Program} {ρ : Rf} {w : World} {d : Option Nat} {ty : TypeId} {pos : String} {af : Array Edge} {g : Option (Nat × Bool)}
section unats
variable {t u : TypeId} {x y : Operand} {k : IntKind} {q M : Nat} {a b : Nat}
theorem NG [UK k q M] (hx : ev ρ x = .int k (a : Int)) (hy : ev ρ y = .int k (b : Int)) : (execOp (ev ρ) ⟨d, .binOp .add t x y u, ty, pos, af, g⟩).run P w = .ok (.value (.int k (((a + b) % M : Nat) : Int))) w := by
 rw [K9 hx hy, ← TX, UK.wrap]
theorem Ml [UK k q M] (hx : ev ρ x = .int k (a : Int)) (hy : ev ρ y = .int k (b : Int)) (hb : b ≤ M) : (execOp (ev ρ) ⟨d, .binOp .sub t x y u, ty, pos, af, g⟩).run P w = .ok (.value (.int k (((a + M - b) % M : Nat) : Int))) w := by
 rw [KW hx hy, ← UK.wrap (k := k)];have h : ((a + M - b : Nat) : Int) = (a : Int) - b + M := Sd;rw [h, UK.wrap_add]
theorem NF [UK k q M] (hx : ev ρ x = .int k (a : Int)) (hy : ev ρ y = .int k (b : Int)) : (execOp (ev ρ) ⟨d, .binOp .mul t x y u, ty, pos, af, g⟩).run P w = .ok (.value (.int k (((a * b) % M : Nat) : Int))) w := by
 rw [KT hx hy, ← Tv, UK.wrap]
theorem NC [UK k q M] (hx : ev ρ x = .int k (a : Int)) (hy : ev ρ y = .int k (b : Int)) (hb : 0 < b) (ha : a < M) : (execOp (ev ρ) ⟨d, .binOp .quo t x y u, ty, pos, af, g⟩).run P w = .ok (.value (.int k ((a / b : Nat) : Int))) w := by
 rw [LH hx hy Sd, ← Int.ofNat_tdiv, UK.oe (Tk (UB _ _) ha)]
theorem Ma (hx : ev ρ x = .int k (a : Int)) (hy : ev ρ y = .int k (b : Int)) (hb : 0 < b) : (execOp (ev ρ) ⟨d, .binOp .rem t x y u, ty, pos, af, g⟩).run P w = .ok (.value (.int k ((a % b : Nat) : Int))) w := by
 rw [LJ hx hy Sd, ← Int.ofNat_tmod]
theorem mQ (n : Nat) (a : Nat) : BitVec.ofInt n (a : Int) = BitVec.ofNat n a := by simp
theorem Pf [h : UK k q M] (hx : ev ρ x = .int k (a : Int)) (hy : ev ρ y = .int k (b : Int)) (ha : a < M) (hb : b < M) : (execOp (ev ρ) ⟨d, .binOp .or t x y u, ty, pos, af, g⟩).run P w = .ok (.value (.int k ((a ||| b : Nat) : Int))) w := by
 rw [Qp hx hy, mQ, mQ, BitVec.toNat_or, BitVec.toNat_ofNat, BitVec.toNat_ofNat, h.bits, h.pow, SY ha, SY hb, UK.oe];rw [← h.pow] at ha hb ⊢;exact Nat.or_lt_two_pow ha hb
theorem Mc [h : UK k q M] (hx : ev ρ x = .int k (a : Int)) (hy : ev ρ y = .int k (b : Int)) (ha : a < M) (hb : b < M) : (execOp (ev ρ) ⟨d, .binOp .and t x y u, ty, pos, af, g⟩).run P w = .ok (.value (.int k ((a &&& b : Nat) : Int))) w := by
 rw [LO hx hy, mQ, mQ, BitVec.toNat_and, BitVec.toNat_ofNat, BitVec.toNat_ofNat, h.bits, h.pow, SY ha, SY hb, UK.oe];exact Tk Nat.and_le_left ha
theorem wR [h : UK k q M] {k' : IntKind} {s : Int} (hx : ev ρ x = .int k (a : Int)) (hy : ev ρ y = .int k' s) (hs : 0 ≤ s ∧ s ≤ q) : (execOp (ev ρ) ⟨d, .binOp .shl t x y u, ty, pos, af, g⟩).run P w = .ok (.value (.int k (((a * 2 ^ s.toNat) % M : Nat) : Int))) w := by
 have e : (a : Int) * 2 ^ (min s.toNat k.bits) = ((a * 2 ^ s.toNat : Nat) : Int) := by
  rw [h.bits, Tp Sd, Tv, Int.natCast_pow]; rfl
 rw [OP hx hy hs.1, e, UK.wrap]
theorem Av [h : UK k q M] {k' : IntKind} {s : Int} (hx : ev ρ x = .int k (a : Int)) (hy : ev ρ y = .int k' s) (hs : 0 ≤ s ∧ s ≤ q) : (execOp (ev ρ) ⟨d, .binOp .shr t x y u, ty, pos, af, g⟩).run P w = .ok (.value (.int k ((a / 2 ^ s.toNat : Nat) : Int))) w := by
 rw [Lk hx hy hs.1, h.bits, Tp Sd, Int.fdiv_eq_ediv_of_nonneg _ (Int.le_of_lt (Int.pow_pos Sd))];simp
theorem IZ [UK k q M] {k' : IntKind} {s m : Nat} (hx : ev ρ x = .int k (a : Int)) (hy : ev ρ y = .int k' (s : Int)) (hs : s ≤ q) (hm : 2 ^ s = m) : (execOp (ev ρ) ⟨d, .binOp .shr t x y u, ty, pos, af, g⟩).run P w = .ok (.value (.int k ((a / m : Nat) : Int))) w := by
 rw [Av hx hy Sd, ← hm]; rfl
theorem Nx [h : UK k q M] (hx : ev ρ x = .int k (a : Int)) (ha : a ≤ M) : (execOp (ev ρ) ⟨d, .unOp .neg t x, ty, pos, af, g⟩).run P w = .ok (.value (.int k (((M - a) % M : Nat) : Int))) w := by
 rw [Lc hx, ← UK.wrap (k := k)];have e : ((M - a : Nat) : Int) = -(a : Int) + M := Sd;rw [e, UK.wrap_add]
theorem JN [UK k q M] {s t : TypeId} {k' : IntKind} {sd : TypeDesc} (hs : P.underlying s = some sd) (ht : P.underlying t = some (.int k)) (hx : ev ρ x = .int k' (a : Int)) :
  (execOp (ev ρ) ⟨d, .convert s t x, ty, pos, af, g⟩).run P w = .ok (.value (.int k ((a % M : Nat) : Int))) w := by
 rw [lJ hs ht hx, UK.wrap]
theorem rH [UK k q M] {s t : TypeId} {k' : IntKind} {sd : TypeDesc} (hs : P.underlying s = some sd) (ht : P.underlying t = some (.int k)) (hx : ev ρ x = .int k' (a : Int)) (ha : a < M) :
  (execOp (ev ρ) ⟨d, .convert s t x, ty, pos, af, g⟩).run P w = .ok (.value (.int k (a : Int))) w := by
 rw [lJ hs ht hx, UK.oe ha]
end unats
section ints
variable {t u : TypeId} {x y : Operand} {k : IntKind} {a b : Int}
theorem JP (hx : ev ρ x = .int k a) (hy : ev ρ y = .int k b) : (execOp (ev ρ) ⟨d, .binOp .lss t x y u, ty, pos, af, g⟩).run P w = .ok (.value (.bool (decide (a < b)))) w := by
 by_cases h : a < b
 ·rw [Jf hx hy h, SF h]
 ·rw [I3 hx hy h, SQ h]
theorem JB (hx : ev ρ x = .int k a) (hy : ev ρ y = .int k b) : (execOp (ev ρ) ⟨d, .binOp .leq t x y u, ty, pos, af, g⟩).run P w = .ok (.value (.bool (decide (a ≤ b)))) w := by
 by_cases h : a ≤ b
 ·rw [Jq hx hy h, SF h]
 ·rw [JY hx hy h, SQ h]
theorem BV (hx : ev ρ x = .int k a) (hy : ev ρ y = .int k b) : (execOp (ev ρ) ⟨d, .binOp .gtr t x y u, ty, pos, af, g⟩).run P w = .ok (.value (.bool (decide (b < a)))) w := by
 by_cases h : b < a
 ·rw [JL hx hy h, SF h]
 ·rw [Ks hx hy h, SQ h]
theorem Jo (hx : ev ρ x = .int k a) (hy : ev ρ y = .int k b) : (execOp (ev ρ) ⟨d, .binOp .geq t x y u, ty, pos, af, g⟩).run P w = .ok (.value (.bool (decide (b ≤ a)))) w := by
 by_cases h : b ≤ a
 ·rw [I0 hx hy h, SF h]
 ·rw [JI hx hy h, SQ h]
theorem JS (hx : ev ρ x = .int k a) (hy : ev ρ y = .int k b) : (execOp (ev ρ) ⟨d, .binOp .neq t x y u, ty, pos, af, g⟩).run P w = .ok (.value (.bool (decide (a ≠ b)))) w := by
 by_cases h : a = b
 ·rw [Ka hx hy h, SQ (by simpa using h)]
 ·rw [JG hx hy h, SF h]
end ints
section bools
variable {t u : TypeId} {x y : Operand} {a b : Bool}
theorem JV (ht : P.underlying t = some .bool) (hx : ev ρ x = .bool a) (hy : ev ρ y = .bool b) (h : a = b) : (execOp (ev ρ) ⟨d, .binOp .eql t x y u, ty, pos, af, g⟩).run P w = .ok (.value (.bool true)) w := by
 rw [r6 ht hx hy, h, beq_self_eq_true]
theorem KN (ht : P.underlying t = some .bool) (hx : ev ρ x = .bool a) (hy : ev ρ y = .bool b) (h : ¬ a = b) : (execOp (ev ρ) ⟨d, .binOp .eql t x y u, ty, pos, af, g⟩).run P w = .ok (.value (.bool false)) w := by
 rw [r6 ht hx hy, beq_false_of_ne h]
theorem JT (ht : P.underlying t = some .bool) (hx : ev ρ x = .bool a) (hy : ev ρ y = .bool b) (h : ¬ a = b) : (execOp (ev ρ) ⟨d, .binOp .neq t x y u, ty, pos, af, g⟩).run P w = .ok (.value (.bool true)) w := by
 rw [nE ht hx hy, bne, beq_false_of_ne h]; rfl
theorem KM (ht : P.underlying t = some .bool) (hx : ev ρ x = .bool a) (hy : ev ρ y = .bool b) (h : a = b) : (execOp (ev ρ) ⟨d, .binOp .neq t x y u, ty, pos, af, g⟩).run P w = .ok (.value (.bool false)) w := by
 rw [nE ht hx hy, bne, h, beq_self_eq_true]; rfl
end bools
theorem jK {t e : TypeId} {x i : Operand} {ad : Addr} {n c sz k : Nat} {kk : IntKind} {m : Int} (ht : P.underlying t = some (.slice e)) (hsz : (P.info? e).map (·.size) = some sz) (hx : ev ρ x = .slice (some ad) n c) (hi : ev ρ i = .int kk m)
  (hm : m = (k : Int)) (h1 : k < n) : (execOp (ev ρ) ⟨d, .indexAddr t x i, ty, pos, af, g⟩).run P w = .ok (.value (.pointer (some (ad.add (k * sz))))) w := by
 rw [eT ht hsz hx hi Sd Sd, hm]; rfl
theorem Ai {t e : TypeId} {x i : Operand} {b o n c sz k : Nat} {kk : IntKind} {m : Int} (ht : P.underlying t = some (.slice e)) (hsz : (P.info? e).map (·.size) = some sz) (hx : ev ρ x = .slice (some ⟨b, o, none⟩) n c) (hi : ev ρ i = .int kk m)
  (hm : m = (k : Int)) (h1 : k < n) : (execOp (ev ρ) ⟨d, .indexAddr t x i, ty, pos, af, g⟩).run P w = .ok (.value (.pointer (some ⟨b, o + k * sz, none⟩))) w := by
 rw [eT ht hsz hx hi Sd Sd, hm, eC]; rfl
theorem A0 {t e : TypeId} {x i : Operand} {ad : Addr} {n sz k : Nat} {kk : IntKind} {m : Int} (ht : P.underlying t = some (.array n e)) (hsz : (P.info? e).map (·.size) = some sz) (hx : ev ρ x = .pointer (some ad)) (hi : ev ρ i = .int kk m)
  (hm : m = (k : Int)) (h1 : k < n) : (execOp (ev ρ) ⟨d, .indexAddr t x i, ty, pos, af, g⟩).run P w = .ok (.value (.pointer (some (ad.add (k * sz))))) w := by
 obtain ⟨i, hi1, hi2⟩ := TH.1 hsz;have h2 : (k : Int) < n := Sd;subst hm;simp [execOp, hx, hi, Instr.indexAt, asIntOf, run_underlying ht, sizeOf, typeInfo, hi1, hi2, Instr.sureAddr, h1]
theorem yS {t e : TypeId} {x hi : Operand} {A : Option Addr} {n c h sz : Nat} {k : IntKind} {m : Int} (ht : P.underlying t = some (.slice e)) (hsz : (P.info? e).map (·.size) = some sz) (hx : ev ρ x = .slice A n c) (hhi : ev ρ hi = .int k m)
  (hm : m = (h : Int)) (h2 : h ≤ c) : (execOp (ev ρ) ⟨d, .slice t x none (some hi) none, ty, pos, af, g⟩).run P w = .ok (.value (.slice A h c)) w := by
 rw [iB (lo := none) (hi := some hi) (l := 0) (h := h) ht hsz hx rfl ⟨k, m, hhi, hm⟩ (Sn _) h2];congr 3
 cases A with
 | none => simp
 | some ad => simp [Addr.add]
theorem Ay {t e : TypeId} {x lo : Operand} {b o n c l sz : Nat} {k : IntKind} {m : Int} (ht : P.underlying t = some (.slice e)) (hsz : (P.info? e).map (·.size) = some sz) (hx : ev ρ x = .slice (some ⟨b, o, none⟩) n c) (hlo : ev ρ lo = .int k m)
  (hm : m = (l : Int)) (h1 : l ≤ n) (h2 : n ≤ c) (h3 : l < c) : (execOp (ev ρ) ⟨d, .slice t x (some lo) none none, ty, pos, af, g⟩).run P w = .ok (.value (.slice (some ⟨b, o + l * sz, none⟩) (n - l) (c - l))) w := by
 rw [iB (lo := some lo) (hi := none) (l := l) (h := n) ht hsz hx ⟨k, m, hlo, hm⟩ rfl h1 h2, Si Sd];simp only [T5, eC]
theorem zv {t e : TypeId} {x lo : Operand} {ad : Addr} {n c l sz : Nat} {k : IntKind} {m : Int} (ht : P.underlying t = some (.slice e)) (hsz : (P.info? e).map (·.size) = some sz) (hx : ev ρ x = .slice (some ad) n c) (hlo : ev ρ lo = .int k m)
  (hm : m = (l : Int)) (h1 : l ≤ n) (h2 : n ≤ c) (h3 : l < c) : (execOp (ev ρ) ⟨d, .slice t x (some lo) none none, ty, pos, af, g⟩).run P w = .ok (.value (.slice (some (ad.add (l * sz))) (n - l) (c - l))) w := by
 rw [iB (lo := some lo) (hi := none) (l := l) (h := n) ht hsz hx ⟨k, m, hlo, hm⟩ rfl h1 h2, Si Sd]
 rfl
end
theorem Rd.DB {w : World} {ad : Addr} {xs : List Value} {k : Nat} {v : Value} (h : Rd w ad xs) (hx : xs[k]? = some v) : w.cell? (ad.add (k * 1)) = some v := by
 rw [SI]; exact h k v hx
def cN (l : List Nat) : List Value := l.map fun (d : Nat) => .int .u64 (d : Int)
theorem aT (l : List Nat) : (cN l).length = l.length := by simp [cN]
theorem eb {l : List Nat} {k d : Nat} (h : l[k]? = some d) : (cN l)[k]? = some (.int .u64 (d : Int)) := by simp [cN, h]
theorem fP (l : List Nat) (k d : Nat) : (cN l).set k (.int .u64 (d : Int)) = cN (l.set k d) := by simp [cN, Ua]
theorem yX (a b : List Nat) : cN (a ++ b) = cN a ++ cN b := by simp [cN]
theorem vh (a : List Nat) (k : Nat) : cN (a.take k) = (cN a).take k := by simp [cN, List.map_take]
theorem uU (a : List Nat) (k : Nat) : cN (a.drop k) = (cN a).drop k := by simp [cN, UN]
theorem du (l : List Nat) : ((cN l).all Value.oneCell') = true := by simp [cN, Value.oneCell']
theorem oK (n : Nat) : gd n [Value.int .u64 0] = cN (List.replicate n 0) := by rw [xX]; simp [cN]
def gl (l : List Nat) : List Value := l.map fun (d : Nat) => .int .u8 (d : Int)
theorem cz (l : List Nat) : (gl l).length = l.length := by simp [gl]
theorem qd {l : List Nat} {k d : Nat} (h : l[k]? = some d) : (gl l)[k]? = some (.int .u8 (d : Int)) := by simp [gl, h]
theorem oM (l : List Nat) (k d : Nat) : (gl l).set k (.int .u8 (d : Int)) = gl (l.set k d) := by simp [gl, Ua]
theorem tE (a b : List Nat) : gl (a ++ b) = gl a ++ gl b := by simp [gl]
theorem yM (a : List Nat) (k : Nat) : gl (a.take k) = (gl a).take k := by simp [gl, List.map_take]
theorem ez (l : List Nat) : ((gl l).all Value.oneCell') = true := by simp [gl, Value.oneCell']
theorem o4 (n : Nat) : gd n [Value.int .u8 0] = gl (List.replicate n 0) := by rw [xX]; simp [gl]
theorem Ep {l : List Nat} (h : ∀ d ∈ l, d < 256) : gl l = nQ (l.map UInt8.ofNat) := by
 rw [gl, nQ, Ty];apply Um;intro d hd;have := h d hd;simp only [Function.comp, UInt8.toNat_ofNat'];congr 2;omega
theorem Sl.Mm {w : World} {ad : Addr} {n : Nat} {ys : List Nat} {k d : Nat} (h : Sl w (some ad) n 1 (cN ys)) (hd : ys[k]? = some d) : w.cell? (ad.add (k * 1)) = some (.int .u64 (d : Int)) := by
 have hl := h.1;have hk := (SC.1 hd).1;rw [aT] at hl;obtain ⟨ad', he, hr⟩ := h.2 Sd;injection he with he
 subst he;exact hr.DB (eb hd)
theorem wv {pre done r post : List Nat} {x : Nat} : (pre ++ (done ++ x :: r) ++ post)[pre.length + done.length]? = some x := by
 rw [S5, Tu Sd, S5, Tu Sd];simp
theorem mX {pre done r post : List Nat} {x y : Nat} : (pre ++ (done ++ x :: r) ++ post).set (pre.length + done.length) y = pre ++ ((done ++ [y]) ++ r) ++ post := by
 rw [S5, Un _ _ Sd, S5, Un _ _ Sd];simp
theorem cB {cs : List Value} {o : Nat} {v : Value} (h : o < cs.length) : bM cs o [v] = cs.set o v := by
 unfold bM;rw [Vs, Sj h];simp
theorem Hp.front {w0 w : World} {H : List HE} {x : HE} (h : Hp w0 H w) (i : Nat) (hi : H[i]? = some x) : Hp w0 (x :: H.eraseIdx i) w := by
 have hp : H.Perm (x :: H.eraseIdx i) := by
  clear h
  induction H generalizing i with
  | nil => simp at hi
  | cons y H ih =>
   cases i with
   | zero => simp at hi; subst hi; simp
   | succ i =>
    simp only [UR] at hi;simp only [List.eraseIdx_cons_succ];exact ((ih i hi).cons y).trans (List.Perm.swap x y _)
 exact ⟨h.below, fun y hy => h.own y (hp.mem_iff.2 hy), (hp.filterMap _).nodup_iff.1 h.nd⟩
theorem Hp.AY {w0 w : World} {H : List HE} {A : Option Addr} {n c : Nat} {t : TypeId} {sz : Nat} {xs : List Value} (h : Hp w0 (.row A n c t sz xs :: H) w) {k : Nat} (hk : k ≤ n) : Hp w0 (.row A k c t sz (xs.take (k * sz)) :: H) w := by
 refine ⟨h.below, fun y hy => ?_, h.nd⟩
 rcases SH.1 hy with rfl | hy
 ·have h1 : w.ownsRow w0.heap.size t sz (.slice A n c) n xs := h.own _ Sq;obtain ⟨h2, h3⟩ := h1;have hkn : k * sz ≤ n * sz := S9 _ hk;refine ⟨by rw [SP]; omega, ?_⟩
  rcases h3 with ⟨h3, h4⟩ | ⟨g, cap, cur, hv, hb, hg, h4, h5, h6, h7⟩
  ·injection h3 with h5 h6 h7
   subst h5 h6 h7;exact .inl ⟨by rw [show k = 0 by omega], Sd⟩
  ·injection hv with h8 h9 h10
   subst h8;refine .inr ⟨g, cap, cur, by rw [h10], hb, hg, Sd, h5, h6, ?_⟩;rw [← h7, List.take_take, Tp hkn]
 ·exact h.own y (SA _ hy)
theorem Hp.fI {w0 w : World} {H : List HE} {A : Option Addr} {n c : Nat} {t : TypeId} {sz : Nat} {xs : List Value} {i : Nat} (h : Hp w0 H w) (hi : H[i]? = some (.row A n c t sz xs)) : n ≤ c := by
 have h1 : w.ownsRow w0.heap.size t sz (.slice A n c) n xs := h.at_ hi
 rcases h1.2 with ⟨h3, h4⟩ | ⟨g, cap, cur, hv, hb, hg, h4, h5, h6, h7⟩
 ·omega
 ·injection hv with h8 h9 h10
  omega
section
variable {ro : Mode}
section
variable {P : Program} {N : Nat} {ops : Array Oper} {Q : Kq} {ρ : Rf} {w w0 : World} {rest : List Oper} {H : List HE} {d : Nat} {ty : TypeId} {pos : String} {af : Array Edge}
theorem qa {x : Operand} {v : Value} (hx : ev ρ x = v) (hN : d < N) (kk : WL ro P N ops Q rest (cx ρ d v) w) :
  WL ro P N ops Q (⟨some d, .move x, ty, pos, af, none⟩ :: rest) ρ w := aM rfl rfl hN (eJ hx) kk
theorem kt {x : Operand} {v : Value} (hx : ev ρ x = v) (hN : d < N) (kk : WL ro P N ops Q rest (cx ρ d v) w) :
  WL ro P N ops Q (⟨some d, .assign x, ty, pos, af, none⟩ :: rest) ρ w := aM rfl rfl hN (FO hx) kk
theorem Ht {c a b : Operand} {v : Value} (hc : ev ρ c = .bool true) (hx : ev ρ a = v) (hN : d < N) (kk : WL ro P N ops Q rest (cx ρ d v) w) :
  WL ro P N ops Q (⟨some d, .pick c a b, ty, pos, af, none⟩ :: rest) ρ w := aM rfl rfl hN (zG hc hx) kk
theorem GL {c a b : Operand} {v : Value} (hc : ev ρ c = .bool false) (hx : ev ρ b = v) (hN : d < N) (kk : WL ro P N ops Q rest (cx ρ d v) w) :
  WL ro P N ops Q (⟨some d, .pick c a b, ty, pos, af, none⟩ :: rest) ρ w := aM rfl rfl hN (xH hc hx) kk
section
variable {t u : TypeId} {x y : Operand} {k : IntKind} {a b : Int}
theorem HM {k' : IntKind} (hx : ev ρ x = .int k a) (hy : ev ρ y = .int k' b) (hb : 0 ≤ b) (hN : d < N) (kk : WL ro P N ops Q rest (cx ρ d (.int k (a.fdiv (2 ^ (min b.toNat k.bits))))) w) :
  WL ro P N ops Q (⟨some d, .binOp .shr t x y u, ty, pos, af, none⟩ :: rest) ρ w := aM rfl rfl hN (Lk hx hy hb) kk
theorem Cw (hx : ev ρ x = .int k a) (hy : ev ρ y = .int k b) (hN : d < N) (kk : WL ro P N ops Q rest (cx ρ d (.bool (decide (a = b)))) w) :
  WL ro P N ops Q (⟨some d, .binOp .eql t x y u, ty, pos, af, none⟩ :: rest) ρ w := aM rfl rfl hN (BR hx hy) kk
theorem M3 (hx : ev ρ x = .int .i64 a) (hy : ev ρ y = .int .i64 b) (h1 : -9223372036854775808 ≤ a + b) (h2 : a + b ≤ 9223372036854775807) (hN : d < N) (kk : WL ro P N ops Q rest (cx ρ d (.int .i64 (a + b))) w) :
  WL ro P N ops Q (⟨some d, .binOp .add t x y u, ty, pos, af, none⟩ :: rest) ρ w := aM rfl rfl hN (Iv hx hy h1 h2) kk
theorem MJ (hx : ev ρ x = .int .i64 a) (hy : ev ρ y = .int .i64 b) (h1 : -9223372036854775808 ≤ a - b) (h2 : a - b ≤ 9223372036854775807) (hN : d < N) (kk : WL ro P N ops Q rest (cx ρ d (.int .i64 (a - b))) w) :
  WL ro P N ops Q (⟨some d, .binOp .sub t x y u, ty, pos, af, none⟩ :: rest) ρ w := aM rfl rfl hN (HQ hx hy h1 h2) kk
theorem Nu (hx : ev ρ x = .int .i64 a) (hy : ev ρ y = .int .i64 b) (h1 : -9223372036854775808 ≤ a * b) (h2 : a * b ≤ 9223372036854775807) (hN : d < N) (kk : WL ro P N ops Q rest (cx ρ d (.int .i64 (a * b))) w) :
  WL ro P N ops Q (⟨some d, .binOp .mul t x y u, ty, pos, af, none⟩ :: rest) ρ w := aM rfl rfl hN (GH hx hy h1 h2) kk
theorem vW (hx : ev ρ x = .int .i64 a) (h1 : -9223372036854775808 ≤ -a) (h2 : -a ≤ 9223372036854775807) (hN : d < N) (kk : WL ro P N ops Q rest (cx ρ d (.int .i64 (-a))) w) :
  WL ro P N ops Q (⟨some d, .unOp .neg t x, ty, pos, af, none⟩ :: rest) ρ w := aM rfl rfl hN (Gy hx h1 h2) kk
theorem Nv (hx : ev ρ x = .int .i64 a) (hy : ev ρ y = .int .i64 b) (ha : 0 ≤ a) (hb : 0 < b) (h2 : a ≤ 9223372036854775807) (hN : d < N) (kk : WL ro P N ops Q rest (cx ρ d (.int .i64 (a / b))) w) :
  WL ro P N ops Q (⟨some d, .binOp .quo t x y u, ty, pos, af, none⟩ :: rest) ρ w := aM rfl rfl hN (sI hx hy ha hb h2) kk
theorem Mk (hx : ev ρ x = .int .i64 a) (hy : ev ρ y = .int .i64 b) (ha : 0 ≤ a) (hb : 0 < b) (hN : d < N) (kk : WL ro P N ops Q rest (cx ρ d (.int .i64 (a % b))) w) :
  WL ro P N ops Q (⟨some d, .binOp .rem t x y u, ty, pos, af, none⟩ :: rest) ρ w := aM rfl rfl hN (pF hx hy ha hb) kk
end
theorem PN {t : TypeId} {x : Operand} {b : Bool} (hx : ev ρ x = .bool b) (hN : d < N) (kk : WL ro P N ops Q rest (cx ρ d (.bool !b)) w) :
  WL ro P N ops Q (⟨some d, .unOp .not t x, ty, pos, af, none⟩ :: rest) ρ w := aM rfl rfl hN (LS hx) kk
section
variable {t u : TypeId} {x y : Operand} {a b : Bool}
end
section
variable {t u : TypeId} {x y : Operand} {a b : ByteArray}
theorem j1 (hx : ev ρ x = .string a) (hy : ev ρ y = .string b) (h : a = b) (hN : d < N) (kk : WL ro P N ops Q rest (cx ρ d (.bool true)) w) :
  WL ro P N ops Q (⟨some d, .binOp .eql t x y u, ty, pos, af, none⟩ :: rest) ρ w := aM rfl rfl hN (xR hx hy h) kk
theorem j5 (hx : ev ρ x = .string a) (hy : ev ρ y = .string b) (h : ¬ a = b) (hN : d < N) (kk : WL ro P N ops Q rest (cx ρ d (.bool false)) w) :
  WL ro P N ops Q (⟨some d, .binOp .eql t x y u, ty, pos, af, none⟩ :: rest) ρ w := aM rfl rfl hN (zJ hx hy h) kk
theorem j8 (hx : ev ρ x = .string a) (hy : ev ρ y = .string b) (h : ¬ a = b) (hN : d < N) (kk : WL ro P N ops Q rest (cx ρ d (.bool true)) w) :
  WL ro P N ops Q (⟨some d, .binOp .neq t x y u, ty, pos, af, none⟩ :: rest) ρ w := aM rfl rfl hN (x9 hx hy h) kk
theorem j9 (hx : ev ρ x = .string a) (hy : ev ρ y = .string b) (h : a = b) (hN : d < N) (kk : WL ro P N ops Q rest (cx ρ d (.bool false)) w) :
  WL ro P N ops Q (⟨some d, .binOp .neq t x y u, ty, pos, af, none⟩ :: rest) ρ w := aM rfl rfl hN (zd hx hy h) kk
theorem EE (hx : ev ρ x = .string a) (hy : ev ρ y = .string b) (hN : d < N) (kk : WL ro P N ops Q rest (cx ρ d (.bool (Op.bytesLess a.toList b.toList))) w) :
  WL ro P N ops Q (⟨some d, .binOp .lss t x y u, ty, pos, af, none⟩ :: rest) ρ w := aM rfl rfl hN (Es hx hy) kk
theorem DZ (hx : ev ρ x = .string a) (hy : ev ρ y = .string b) (hN : d < N) (kk : WL ro P N ops Q rest (cx ρ d (.bool !(Op.bytesLess a.toList b.toList || a.toList == b.toList))) w) :
  WL ro P N ops Q (⟨some d, .binOp .gtr t x y u, ty, pos, af, none⟩ :: rest) ρ w := aM rfl rfl hN (D9 hx hy) kk
theorem vI (hx : ev ρ x = .string a) (hy : ev ρ y = .string b) (hN : d < N) (kk : WL ro P N ops Q rest (cx ρ d (.bool !(Op.bytesLess a.toList b.toList))) w) :
  WL ro P N ops Q (⟨some d, .binOp .geq t x y u, ty, pos, af, none⟩ :: rest) ρ w := aM rfl rfl hN (EC hx hy) kk
end
theorem sf {s t : TypeId} {x : Operand} {k k' : IntKind} {a : Int} {sd : TypeDesc} (hs : P.underlying s = some sd) (ht : P.underlying t = some (.int k)) (hx : ev ρ x = .int k' a) (hN : d < N) (kk : WL ro P N ops Q rest (cx ρ d (.int k (k.wrap a))) w) :
  WL ro P N ops Q (⟨some d, .convert s t x, ty, pos, af, none⟩ :: rest) ρ w := aM rfl rfl hN (lJ hs ht hx) kk
theorem Ao {s t : TypeId} {x : Operand} {k' : IntKind} {a : Int} {sd : TypeDesc} (hs : P.underlying s = some sd) (ht : P.underlying t = some (.int .i64)) (hx : ev ρ x = .int k' a) (h1 : -9223372036854775808 ≤ a) (h2 : a ≤ 9223372036854775807) (hN : d < N) (kk : WL ro P N ops Q rest (cx ρ d (.int .i64 a)) w) :
  WL ro P N ops Q (⟨some d, .convert s t x, ty, pos, af, none⟩ :: rest) ρ w := aM rfl rfl hN (Bq hs ht hx h1 h2) kk
theorem Fq {x : Operand} {i : Nat} {vs : List Value} {v : Value} (hx : ev ρ x = .tuple vs.toArray) (hv : vs[i]? = some v) (hN : d < N) (kk : WL ro P N ops Q rest (cx ρ d v) w) :
  WL ro P N ops Q (⟨some d, .extract x i, ty, pos, af, none⟩ :: rest) ρ w := aM rfl rfl hN (de hx hv) kk
theorem sB {fn : Fn} {first captured : Array Operand} {fs cs : List Value} (hf : uM ρ first.toList = fs) (hc : uM ρ captured.toList = cs) (hN : d < N) (kk : WL ro P N ops Q rest (cx ρ d (.func fn fs.toArray cs.toArray)) w) :
  WL ro P N ops Q (⟨some d, .makeFunc fn first captured, ty, pos, af, none⟩ :: rest) ρ w := aM rfl rfl hN (nw hf hc) kk
theorem bD {x : Operand} {t : TypeId} {s : ByteArray} (ht : P.underlying t = some .string) (hx : ev ρ x = .string s) (hN : d < N) (kk : WL ro P N ops Q rest (cx ρ d (.int .i64 s.size)) w) :
  WL ro P N ops Q (⟨some d, .call ⟨.builtin .len, #[x], #[t]⟩, ty, pos, af, none⟩ :: rest) ρ w := aM rfl rfl hN (Fb ht hx) kk
theorem F5 {x : Operand} {t e : TypeId} {A : Option Addr} {n c : Nat} (ht : P.underlying t = some (.slice e)) (hx : ev ρ x = .slice A n c) (hN : d < N) (kk : WL ro P N ops Q rest (cx ρ d (.int .i64 n)) w) :
  WL ro P N ops Q (⟨some d, .call ⟨.builtin .len, #[x], #[t]⟩, ty, pos, af, none⟩ :: rest) ρ w := aM rfl rfl hN (yh ht hx) kk
theorem vB {x y : Operand} {ts : Array TypeId} {k : IntKind} {a b : Int} (hx : ev ρ x = .int k a) (hy : ev ρ y = .int k b) (hN : d < N) (kk : WL ro P N ops Q rest (cx ρ d (.int k (if b < a then b else a))) w) :
  WL ro P N ops Q (⟨some d, .call ⟨.builtin .min, #[x, y], ts⟩, ty, pos, af, none⟩ :: rest) ρ w := aM rfl rfl hN (PJ hx hy) kk
theorem kI {x y : Operand} {ts : Array TypeId} {k : IntKind} {a b : Int} (hx : ev ρ x = .int k a) (hy : ev ρ y = .int k b) (hN : d < N) (kk : WL ro P N ops Q rest (cx ρ d (.int k (if b > a then b else a))) w) :
  WL ro P N ops Q (⟨some d, .call ⟨.builtin .max, #[x, y], ts⟩, ty, pos, af, none⟩ :: rest) ρ w := aM rfl rfl hN (K3 hx hy) kk
theorem qM {t : TypeId} {x i : Operand} {s : ByteArray} {n : Int} {k : IntKind} {c : UInt8} (ht : P.underlying t = some .string) (hx : ev ρ x = .string s) (hi : ev ρ i = .int k n)
  (h0 : 0 ≤ n) (hc : s.data.toList[n.toNat]? = some c) (hN : d < N) (kk : WL ro P N ops Q rest (cx ρ d (.int .u8 c.toNat)) w) :
  WL ro P N ops Q (⟨some d, .index t x i, ty, pos, af, none⟩ :: rest) ρ w := aM rfl rfl hN (qP ht hx hi h0 hc) kk
theorem qL {t : TypeId} {x : Operand} {lo hi : Option Operand} {s : ByteArray} {l h : Nat} (ht : P.underlying t = some .string) (hx : ev ρ x = .string s)
  (hlo : match lo with | none => l = 0 | some o => ∃ (k : IntKind) (n : Int), ev ρ o = .int k n ∧ n = l) (hhi : match hi with | none => h = s.size | some o => ∃ (k : IntKind) (n : Int), ev ρ o = .int k n ∧ n = h)
  (h1 : l ≤ h) (h2 : h ≤ s.size) (hN : d < N) (kk : WL ro P N ops Q rest (cx ρ d (.string (s.extract l h))) w) :
  WL ro P N ops Q (⟨some d, .slice t x lo hi none, ty, pos, af, none⟩ :: rest) ρ w := aM rfl rfl hN (yr ht hx hlo hhi h1 h2) kk
theorem mh {t e : TypeId} {x i : Operand} {ad : Addr} {n c sz : Nat} {k : IntKind} {m : Int} (ht : P.underlying t = some (.slice e)) (hsz : (P.info? e).map (·.size) = some sz) (hx : ev ρ x = .slice (some ad) n c) (hi : ev ρ i = .int k m)
  (h0 : 0 ≤ m) (h1 : m < n) (hN : d < N) (kk : WL ro P N ops Q rest (cx ρ d (.pointer (some (ad.add (m.toNat * sz))))) w) :
  WL ro P N ops Q (⟨some d, .indexAddr t x i, ty, pos, af, none⟩ :: rest) ρ w := aM rfl rfl hN (eT ht hsz hx hi h0 h1) kk
theorem cG {t e : TypeId} {x i : Operand} {b n c sz k : Nat} {kk : IntKind} {m : Int} (ht : P.underlying t = some (.slice e)) (hsz : (P.info? e).map (·.size) = some sz) (hx : ev ρ x = .slice (some ⟨b, 0, none⟩) n c) (hi : ev ρ i = .int kk m)
  (hm : m = (k : Int)) (h1 : k < n) (hN : d < N) (kk : WL ro P N ops Q rest (cx ρ d (.pointer (some ⟨b, k * sz, none⟩))) w) :
  WL ro P N ops Q (⟨some d, .indexAddr t x i, ty, pos, af, none⟩ :: rest) ρ w := aM rfl rfl hN (tw ht hsz hx hi hm h1) kk
theorem ct {t : TypeId} {x : Operand} {ad : Addr} {n by' : Nat} {zc vs : List Value} (ht : dk P t = some (n, true, by', zc)) (hx : ev ρ x = .pointer (some ad)) (hr : Rd w ad vs) (hl : vs.length = n) (hN : d < N) (kk : WL ro P N ops Q rest (cx ρ d (.agg vs.toArray)) w) :
  WL ro P N ops Q (⟨some d, .load t x, ty, pos, af, none⟩ :: rest) ρ w := aM rfl rfl hN (BE ht hx hr hl) kk
theorem cv {t : TypeId} {x : Operand} {ad : Addr} {n by' : Nat} {zc : List Value} {v : Value} (ht : dk P t = some (n, false, by', zc)) (hx : ev ρ x = .pointer (some ad)) (hc : w.cell? ad = some v) (hN : d < N) (kk : WL ro P N ops Q rest (cx ρ d v) w) :
  WL ro P N ops Q (⟨some d, .load t x, ty, pos, af, none⟩ :: rest) ρ w := aM rfl rfl hN (ju ht hx hc) kk
theorem zR {s : TypeId} {x : Operand} {f b o off : Nat} {ft : TypeId} (hf : gm P s f = some (off, ft)) (hx : ev ρ x = .pointer (some ⟨b, o, none⟩)) (hN : d < N) (kk : WL ro P N ops Q rest (cx ρ d (.pointer (some ⟨b, o + off, none⟩))) w) :
  WL ro P N ops Q (⟨some d, .fieldAddr s x f, ty, pos, af, none⟩ :: rest) ρ w := aM rfl rfl hN (qy hf hx) kk
theorem wV {s : TypeId} {x : Operand} {f off : Nat} {ad : Addr} {ft : TypeId} (hf : gm P s f = some (off, ft)) (hx : ev ρ x = .pointer (some ad)) (hN : d < N) (kk : WL ro P N ops Q rest (cx ρ d (.pointer (some (ad.add off)))) w) :
  WL ro P N ops Q (⟨some d, .fieldAddr s x f, ty, pos, af, none⟩ :: rest) ρ w := aM rfl rfl hN (oC hf hx) kk
theorem Kv {s : TypeId} {x : Operand} {f off n by' : Nat} {ft : TypeId} {cs vs : Array Value} {zc : List Value} (hf : gm P s f = some (off, ft)) (ht : dk P ft = some (n, true, by', zc)) (hx : ev ρ x = .agg cs) (hv : cs.extract off (off + n) = vs) (hN : d < N) (kk : WL ro P N ops Q rest (cx ρ d (.agg vs)) w) :
  WL ro P N ops Q (⟨some d, .field s x f, ty, pos, af, none⟩ :: rest) ρ w := aM rfl rfl hN (Jw hf ht hx hv) kk
theorem Jb {t : TypeId} {n by' : Nat} {parts : Array (Nat × Operand)} {ps : List (Nat × Value)} {zc cs : List Value} {pl : List (Nat × Nat)} (hte : dk P t = some (n, true, by', zc))
  (hpl : oa P t = some pl)
  (hp : yb ρ parts.toList = ps) (hf : kz (pl[·]?) zc ps = some cs) (hN : d < N) (kk : WL ro P N ops Q rest (cx ρ d (.agg cs.toArray)) w) :
  WL ro P N ops Q (⟨some d, .build t parts, ty, pos, af, none⟩ :: rest) ρ w := aM rfl rfl hN (q9 hte hpl hp hf) kk
theorem qw {s t e : TypeId} {x : Operand} {A : Option Addr} {n c : Nat} {l : List UInt8} (hs : P.underlying s = some (.slice e)) (he : P.underlying e = some (.int .u8)) (ht : P.underlying t = some .string)
  (hx : ev ρ x = .slice A n c) (h : Sl w A n 1 (nQ l)) (hN : d < N) (kk : WL ro P N ops Q rest (cx ρ d (.string ⟨l.toArray⟩)) w) :
  WL ro P N ops Q (⟨some d, .convert s t x, ty, pos, af, none⟩ :: rest) ρ w := aM rfl rfl hN (me hs he ht hx h) kk
section
variable {t u : TypeId} {x y : Operand} {k : IntKind} {q M : Nat} {a b : Nat}
theorem il [UK k q M] (hx : ev ρ x = .int k (a : Int)) (hy : ev ρ y = .int k (b : Int)) (hN : d < N) (kk : WL ro P N ops Q rest (cx ρ d (.int k (((a + b) % M : Nat) : Int))) w) :
  WL ro P N ops Q (⟨some d, .binOp .add t x y u, ty, pos, af, none⟩ :: rest) ρ w := aM rfl rfl hN (NG hx hy) kk
theorem As [UK k q M] (hx : ev ρ x = .int k (a : Int)) (hy : ev ρ y = .int k (b : Int)) (hb : b ≤ M) (hN : d < N) (kk : WL ro P N ops Q rest (cx ρ d (.int k (((a + M - b) % M : Nat) : Int))) w) :
  WL ro P N ops Q (⟨some d, .binOp .sub t x y u, ty, pos, af, none⟩ :: rest) ρ w := aM rfl rfl hN (Ml hx hy hb) kk
theorem p5 [UK k q M] (hx : ev ρ x = .int k (a : Int)) (hy : ev ρ y = .int k (b : Int)) (hN : d < N) (kk : WL ro P N ops Q rest (cx ρ d (.int k (((a * b) % M : Nat) : Int))) w) :
  WL ro P N ops Q (⟨some d, .binOp .mul t x y u, ty, pos, af, none⟩ :: rest) ρ w := aM rfl rfl hN (NF hx hy) kk
theorem L9 [UK k q M] (hx : ev ρ x = .int k (a : Int)) (hy : ev ρ y = .int k (b : Int)) (hb : 0 < b) (ha : a < M) (hN : d < N) (kk : WL ro P N ops Q rest (cx ρ d (.int k ((a / b : Nat) : Int))) w) :
  WL ro P N ops Q (⟨some d, .binOp .quo t x y u, ty, pos, af, none⟩ :: rest) ρ w := aM rfl rfl hN (NC hx hy hb ha) kk
theorem Bi (hx : ev ρ x = .int k (a : Int)) (hy : ev ρ y = .int k (b : Int)) (hb : 0 < b) (hN : d < N) (kk : WL ro P N ops Q rest (cx ρ d (.int k ((a % b : Nat) : Int))) w) :
  WL ro P N ops Q (⟨some d, .binOp .rem t x y u, ty, pos, af, none⟩ :: rest) ρ w := aM rfl rfl hN (Ma hx hy hb) kk
theorem Po [h : UK k q M] (hx : ev ρ x = .int k (a : Int)) (hy : ev ρ y = .int k (b : Int)) (ha : a < M) (hb : b < M) (hN : d < N) (kk : WL ro P N ops Q rest (cx ρ d (.int k ((a ||| b : Nat) : Int))) w) :
  WL ro P N ops Q (⟨some d, .binOp .or t x y u, ty, pos, af, none⟩ :: rest) ρ w := aM rfl rfl hN (Pf hx hy ha hb) kk
theorem Ba [h : UK k q M] (hx : ev ρ x = .int k (a : Int)) (hy : ev ρ y = .int k (b : Int)) (ha : a < M) (hb : b < M) (hN : d < N) (kk : WL ro P N ops Q rest (cx ρ d (.int k ((a &&& b : Nat) : Int))) w) :
  WL ro P N ops Q (⟨some d, .binOp .and t x y u, ty, pos, af, none⟩ :: rest) ρ w := aM rfl rfl hN (Mc hx hy ha hb) kk
theorem Bw [h : UK k q M] {k' : IntKind} {s : Int} (hx : ev ρ x = .int k (a : Int)) (hy : ev ρ y = .int k' s) (hs : 0 ≤ s ∧ s ≤ q) (hN : d < N) (kk : WL ro P N ops Q rest (cx ρ d (.int k ((a / 2 ^ s.toNat : Nat) : Int))) w) :
  WL ro P N ops Q (⟨some d, .binOp .shr t x y u, ty, pos, af, none⟩ :: rest) ρ w := aM rfl rfl hN (Av hx hy hs) kk
theorem lg [UK k q M] {k' : IntKind} {s m : Nat} (hx : ev ρ x = .int k (a : Int)) (hy : ev ρ y = .int k' (s : Int)) (hs : s ≤ q) (hm : 2 ^ s = m) (hN : d < N) (kk : WL ro P N ops Q rest (cx ρ d (.int k ((a / m : Nat) : Int))) w) :
  WL ro P N ops Q (⟨some d, .binOp .shr t x y u, ty, pos, af, none⟩ :: rest) ρ w := aM rfl rfl hN (IZ hx hy hs hm) kk
theorem Hy [h : UK k q M] (hx : ev ρ x = .int k (a : Int)) (ha : a ≤ M) (hN : d < N) (kk : WL ro P N ops Q rest (cx ρ d (.int k (((M - a) % M : Nat) : Int))) w) :
  WL ro P N ops Q (⟨some d, .unOp .neg t x, ty, pos, af, none⟩ :: rest) ρ w := aM rfl rfl hN (Nx hx ha) kk
theorem Js [UK k q M] {s t : TypeId} {k' : IntKind} {sd : TypeDesc} (hs : P.underlying s = some sd) (ht : P.underlying t = some (.int k)) (hx : ev ρ x = .int k' (a : Int)) (hN : d < N) (kk : WL ro P N ops Q rest (cx ρ d (.int k ((a % M : Nat) : Int))) w) :
  WL ro P N ops Q (⟨some d, .convert s t x, ty, pos, af, none⟩ :: rest) ρ w := aM rfl rfl hN (JN hs ht hx) kk
theorem Bu [UK k q M] {s t : TypeId} {k' : IntKind} {sd : TypeDesc} (hs : P.underlying s = some sd) (ht : P.underlying t = some (.int k)) (hx : ev ρ x = .int k' (a : Int)) (ha : a < M) (hN : d < N) (kk : WL ro P N ops Q rest (cx ρ d (.int k (a : Int))) w) :
  WL ro P N ops Q (⟨some d, .convert s t x, ty, pos, af, none⟩ :: rest) ρ w := aM rfl rfl hN (rH hs ht hx ha) kk
end
section
variable {t u : TypeId} {x y : Operand} {k : IntKind} {a b : Int}
theorem J2 (hx : ev ρ x = .int k a) (hy : ev ρ y = .int k b) (hN : d < N) (kk : WL ro P N ops Q rest (cx ρ d (.bool (decide (a < b)))) w) :
  WL ro P N ops Q (⟨some d, .binOp .lss t x y u, ty, pos, af, none⟩ :: rest) ρ w := aM rfl rfl hN (JP hx hy) kk
theorem I6 (hx : ev ρ x = .int k a) (hy : ev ρ y = .int k b) (hN : d < N) (kk : WL ro P N ops Q rest (cx ρ d (.bool (decide (a ≤ b)))) w) :
  WL ro P N ops Q (⟨some d, .binOp .leq t x y u, ty, pos, af, none⟩ :: rest) ρ w := aM rfl rfl hN (JB hx hy) kk
theorem Km (hx : ev ρ x = .int k a) (hy : ev ρ y = .int k b) (hN : d < N) (kk : WL ro P N ops Q rest (cx ρ d (.bool (decide (b < a)))) w) :
  WL ro P N ops Q (⟨some d, .binOp .gtr t x y u, ty, pos, af, none⟩ :: rest) ρ w := aM rfl rfl hN (BV hx hy) kk
theorem JR (hx : ev ρ x = .int k a) (hy : ev ρ y = .int k b) (hN : d < N) (kk : WL ro P N ops Q rest (cx ρ d (.bool (decide (b ≤ a)))) w) :
  WL ro P N ops Q (⟨some d, .binOp .geq t x y u, ty, pos, af, none⟩ :: rest) ρ w := aM rfl rfl hN (Jo hx hy) kk
theorem Kf (hx : ev ρ x = .int k a) (hy : ev ρ y = .int k b) (hN : d < N) (kk : WL ro P N ops Q rest (cx ρ d (.bool (decide (a ≠ b)))) w) :
  WL ro P N ops Q (⟨some d, .binOp .neq t x y u, ty, pos, af, none⟩ :: rest) ρ w := aM rfl rfl hN (JS hx hy) kk
end
section
variable {t u : TypeId} {x y : Operand} {a b : Bool}
theorem Dl (ht : P.underlying t = some .bool) (hx : ev ρ x = .bool a) (hy : ev ρ y = .bool b) (h : a = b) (hN : d < N) (kk : WL ro P N ops Q rest (cx ρ d (.bool true)) w) :
  WL ro P N ops Q (⟨some d, .binOp .eql t x y u, ty, pos, af, none⟩ :: rest) ρ w := aM rfl rfl hN (JV ht hx hy h) kk
theorem KF (ht : P.underlying t = some .bool) (hx : ev ρ x = .bool a) (hy : ev ρ y = .bool b) (h : ¬ a = b) (hN : d < N) (kk : WL ro P N ops Q rest (cx ρ d (.bool false)) w) :
  WL ro P N ops Q (⟨some d, .binOp .eql t x y u, ty, pos, af, none⟩ :: rest) ρ w := aM rfl rfl hN (KN ht hx hy h) kk
theorem DT (ht : P.underlying t = some .bool) (hx : ev ρ x = .bool a) (hy : ev ρ y = .bool b) (h : ¬ a = b) (hN : d < N) (kk : WL ro P N ops Q rest (cx ρ d (.bool true)) w) :
  WL ro P N ops Q (⟨some d, .binOp .neq t x y u, ty, pos, af, none⟩ :: rest) ρ w := aM rfl rfl hN (JT ht hx hy h) kk
theorem JF (ht : P.underlying t = some .bool) (hx : ev ρ x = .bool a) (hy : ev ρ y = .bool b) (h : a = b) (hN : d < N) (kk : WL ro P N ops Q rest (cx ρ d (.bool false)) w) :
  WL ro P N ops Q (⟨some d, .binOp .neq t x y u, ty, pos, af, none⟩ :: rest) ρ w := aM rfl rfl hN (KM ht hx hy h) kk
end
theorem db {t e : TypeId} {x i : Operand} {ad : Addr} {n c sz k : Nat} {kk : IntKind} {m : Int} (ht : P.underlying t = some (.slice e)) (hsz : (P.info? e).map (·.size) = some sz) (hx : ev ρ x = .slice (some ad) n c) (hi : ev ρ i = .int kk m)
  (hm : m = (k : Int)) (h1 : k < n) (hN : d < N) (kk : WL ro P N ops Q rest (cx ρ d (.pointer (some (ad.add (k * sz))))) w) :
  WL ro P N ops Q (⟨some d, .indexAddr t x i, ty, pos, af, none⟩ :: rest) ρ w := aM rfl rfl hN (jK ht hsz hx hi hm h1) kk
theorem nK {t e : TypeId} {x i : Operand} {b o n c sz k : Nat} {kk : IntKind} {m : Int} (ht : P.underlying t = some (.slice e)) (hsz : (P.info? e).map (·.size) = some sz) (hx : ev ρ x = .slice (some ⟨b, o, none⟩) n c) (hi : ev ρ i = .int kk m)
  (hm : m = (k : Int)) (h1 : k < n) (hN : d < N) (kk : WL ro P N ops Q rest (cx ρ d (.pointer (some ⟨b, o + k * sz, none⟩))) w) :
  WL ro P N ops Q (⟨some d, .indexAddr t x i, ty, pos, af, none⟩ :: rest) ρ w := aM rfl rfl hN (Ai ht hsz hx hi hm h1) kk
theorem AB {t e : TypeId} {x i : Operand} {ad : Addr} {n sz k : Nat} {kk : IntKind} {m : Int} (ht : P.underlying t = some (.array n e)) (hsz : (P.info? e).map (·.size) = some sz) (hx : ev ρ x = .pointer (some ad)) (hi : ev ρ i = .int kk m)
  (hm : m = (k : Int)) (h1 : k < n) (hN : d < N) (kk : WL ro P N ops Q rest (cx ρ d (.pointer (some (ad.add (k * sz))))) w) :
  WL ro P N ops Q (⟨some d, .indexAddr t x i, ty, pos, af, none⟩ :: rest) ρ w := aM rfl rfl hN (A0 ht hsz hx hi hm h1) kk
theorem o6 {t e : TypeId} {x hi : Operand} {A : Option Addr} {n c h sz : Nat} {k : IntKind} {m : Int} (ht : P.underlying t = some (.slice e)) (hsz : (P.info? e).map (·.size) = some sz) (hx : ev ρ x = .slice A n c) (hhi : ev ρ hi = .int k m)
  (hm : m = (h : Int)) (h2 : h ≤ c) (hN : d < N) (kk : WL ro P N ops Q rest (cx ρ d (.slice A h c)) w) :
  WL ro P N ops Q (⟨some d, .slice t x none (some hi) none, ty, pos, af, none⟩ :: rest) ρ w := aM rfl rfl hN (yS ht hsz hx hhi hm h2) kk
theorem AG {t e : TypeId} {x lo : Operand} {b o n c l sz : Nat} {k : IntKind} {m : Int} (ht : P.underlying t = some (.slice e)) (hsz : (P.info? e).map (·.size) = some sz) (hx : ev ρ x = .slice (some ⟨b, o, none⟩) n c) (hlo : ev ρ lo = .int k m)
  (hm : m = (l : Int)) (h1 : l ≤ n) (h2 : n ≤ c) (h3 : l < c) (hN : d < N) (kk : WL ro P N ops Q rest (cx ρ d (.slice (some ⟨b, o + l * sz, none⟩) (n - l) (c - l))) w) :
  WL ro P N ops Q (⟨some d, .slice t x (some lo) none none, ty, pos, af, none⟩ :: rest) ρ w := aM rfl rfl hN (Ay ht hsz hx hlo hm h1 h2 h3) kk
theorem zX {t e : TypeId} {x lo : Operand} {ad : Addr} {n c l sz : Nat} {k : IntKind} {m : Int} (ht : P.underlying t = some (.slice e)) (hsz : (P.info? e).map (·.size) = some sz) (hx : ev ρ x = .slice (some ad) n c) (hlo : ev ρ lo = .int k m)
  (hm : m = (l : Int)) (h1 : l ≤ n) (h2 : n ≤ c) (h3 : l < c) (hN : d < N) (kk : WL ro P N ops Q rest (cx ρ d (.slice (some (ad.add (l * sz))) (n - l) (c - l))) w) :
  WL ro P N ops Q (⟨some d, .slice t x (some lo) none none, ty, pos, af, none⟩ :: rest) ρ w := aM rfl rfl hN (zv ht hsz hx hlo hm h1 h2 h3) kk
theorem a7 : uM ρ [] = [] := rfl
theorem aA {x : Operand} {l : List Operand} {v : Value} {r : List Value} (hx : ev ρ x = v) (h : uM ρ l = r) : uM ρ (x :: l) = v :: r := by simp only [uM, hx, h]
theorem dF : yb ρ [] = [] := rfl
theorem bC {i : Nat} {x : Operand} {l : List (Nat × Operand)} {v : Value} {r : List (Nat × Value)} (hx : ev ρ x = v) (h : yb ρ l = r) : yb ρ ((i, x) :: l) = (i, v) :: r := by simp only [yb, hx, h]
def Bl (P : Program) (f : FuncId) : Bool := match P.funcs[f]? with | some fn => !fn.body.isNone && !(fn.name == "runtime.NumGoroutine") | none => false
theorem uG {P : Program} {f : FuncId} (h : Bl P f = true) : ∃ fn, P.funcs[f]? = some fn ∧ fn.body.isNone = false ∧ (fn.name == "runtime.NumGoroutine") = false := by
 unfold Bl at h;split at h
 ·rename_i fn hf;simp only [SE, Vr] at h;exact ⟨fn, hf, h.1, h.2⟩
 ·cases h
theorem aZ {dd : Option Nat} {g : Option (Nat × Bool)} {f : FuncId} {args : Array Operand} {ts : Array TypeId} {vs : List Value} (hf : Bl P f = true) (ha : uM ρ args.toList = vs) :
  (execOp (ev ρ) ⟨dd, .call ⟨.value (.func f), args, ts⟩, ty, pos, af, g⟩).run P w = .ok (.enter f vs.toArray) w := by
 obtain ⟨fn, h1, h2, h3⟩ := uG hf;have := Fz (P := P) (w := w) (d := dd) (ty := ty) (pos := pos) (af := af) (g := g) (ts := ts) h1 h2 h3 (show ev ρ (.func f) = .func (.func f) #[] #[] from rfl) (mW args ha);simpa using this
theorem Fs {dd : Option Nat} {g : Option (Nat × Bool)} {x : Operand} {f : FuncId} {args : Array Operand} {ts : Array TypeId} {first cap vs : List Value} (hf : Bl P f = true) (hx : ev ρ x = .func (.func f) first.toArray cap.toArray) (ha : first ++ (uM ρ args.toList ++ cap) = vs) :
  (execOp (ev ρ) ⟨dd, .call ⟨.value x, args, ts⟩, ty, pos, af, g⟩).run P w = .ok (.enter f vs.toArray) w := by
 obtain ⟨fn, h1, h2, h3⟩ := uG hf;have := Fz (P := P) (w := w) (d := dd) (ty := ty) (pos := pos) (af := af) (g := g) (ts := ts) h1 h2 h3 hx (mW args rfl);subst ha;simpa using this
theorem aC {f : FuncId} {args : Array Operand} {ts : Array TypeId} {vs : List Value} {R : Ending → World → Prop} (hc : Calls P f vs.toArray w R) (hf : Bl P f = true) (ha : uM ρ args.toList = vs) (hN : d < N)
  (kk : ∀ e w', R e w' → ∃ v, e = .returned v ∧ WL ro P N ops Q rest (cx ρ d v) w') : WL ro P N ops Q (⟨some d, .call ⟨.value (.func f), args, ts⟩, ty, pos, af, none⟩ :: rest) ρ w :=
 xB rfl rfl hN (aZ hf ha) hc kk
theorem fR {x : Operand} {f : FuncId} {args : Array Operand} {ts : Array TypeId} {first cap vs : List Value} {R : Ending → World → Prop} (hc : Calls P f vs.toArray w R) (hf : Bl P f = true) (hx : ev ρ x = .func (.func f) first.toArray cap.toArray) (ha : first ++ (uM ρ args.toList ++ cap) = vs) (hN : d < N)
  (kk : ∀ e w', R e w' → ∃ v, e = .returned v ∧ WL ro P N ops Q rest (cx ρ d v) w') : WL ro P N ops Q (⟨some d, .call ⟨.value x, args, ts⟩, ty, pos, af, none⟩ :: rest) ρ w :=
 xB rfl rfl hN (Fs hf hx ha) hc kk
end
end
set_option maxRecDepth 100000
class bq (P : Program) (t : TypeId) (d : outParam TypeDesc) : Prop where out : P.underlying t = some d := by kernel_rfl
class aP (P : Program) (t : TypeId) (n : outParam Nat) (ag : outParam Bool) (b : outParam Nat) (zc : outParam (List Value)) : Prop where out : dk P t = some (n, ag, b, zc) := by kernel_rfl
class eO (P : Program) (s : TypeId) (f : Nat) (off : outParam Nat) (ft : outParam TypeId) : Prop where out : gm P s f = some (off, ft) := by kernel_rfl
class kr (P : Program) (s : TypeId) (pl : outParam (List (Nat × Nat))) : Prop where out : oa P s = some pl := by kernel_rfl
class ak (P : Program) (f : FuncId) : Prop where out : Bl P f = true := by kernel_rfl
theorem aP.size {P : Program} {t : TypeId} {n b : Nat} {ag : Bool} {zc : List Value} [h : aP P t n ag b zc] : (P.info? t).map (·.size) = some n := by
 obtain ⟨i, z, d, hi, hd, hz, hs, _⟩ := eW h.out;rw [hi, T5, hs]
instance : bq Tryz.prog 2 (.int .i64) := {}
instance : aP Tryz.prog 2 1 false 8 [.int .i64 0] := {}
instance : bq Tryz.prog 3 (.int .i64) := {}
instance : aP Tryz.prog 3 1 false 8 [.int .i64 0] := {}
instance : bq Tryz.prog 4 (.bool) := {}
instance : aP Tryz.prog 4 1 false 1 [.bool false] := {}
instance : bq Tryz.prog 5 (.int .u8) := {}
instance : aP Tryz.prog 5 1 false 1 [.int .u8 0] := {}
instance : bq Tryz.prog 6 (.int .u8) := {}
instance : aP Tryz.prog 6 1 false 1 [.int .u8 0] := {}
instance : aP Tryz.prog 7 4 true 24 [.int .i64 0, .int .i64 0, .bool false, .int .u8 0] := {}
instance : eO Tryz.prog 7 0 0 2 := {}
instance : eO Tryz.prog 7 1 1 3 := {}
instance : eO Tryz.prog 7 2 2 4 := {}
instance : eO Tryz.prog 7 3 3 6 := {}
instance : kr Tryz.prog 7 [(0, 1), (1, 1), (2, 1), (3, 1)] := {}
instance : aP Tryz.prog 8 4 true 24 [.int .i64 0, .int .i64 0, .bool false, .int .u8 0] := {}
instance : eO Tryz.prog 8 0 0 2 := {}
instance : eO Tryz.prog 8 1 1 3 := {}
instance : eO Tryz.prog 8 2 2 4 := {}
instance : eO Tryz.prog 8 3 3 6 := {}
instance : kr Tryz.prog 8 [(0, 1), (1, 1), (2, 1), (3, 1)] := {}
instance : bq Tryz.prog 9 (.string) := {}
instance : aP Tryz.prog 9 1 false 16 [.string { data := #[] }] := {}
instance : bq Tryz.prog 10 (.string) := {}
instance : aP Tryz.prog 10 1 false 16 [.string { data := #[] }] := {}
instance : bq Tryz.prog 11 (.string) := {}
instance : aP Tryz.prog 11 1 false 16 [.string { data := #[] }] := {}
instance : bq Tryz.prog 12 (.int .u64) := {}
instance : aP Tryz.prog 12 1 false 8 [.int .u64 0] := {}
instance : aP Tryz.prog 13 2 true 24 [.string { data := #[] }, .int .u64 0] := {}
instance : eO Tryz.prog 13 0 0 9 := {}
instance : eO Tryz.prog 13 1 1 12 := {}
instance : kr Tryz.prog 13 [(0, 1), (1, 1)] := {}
instance : aP Tryz.prog 14 2 true 24 [.string { data := #[] }, .int .u64 0] := {}
instance : eO Tryz.prog 14 0 0 9 := {}
instance : eO Tryz.prog 14 1 1 12 := {}
instance : kr Tryz.prog 14 [(0, 1), (1, 1)] := {}
instance : bq Tryz.prog 15 (.pointer 278) := {}
instance : aP Tryz.prog 15 1 false 8 [.pointer none] := {}
instance : bq Tryz.prog 16 (.pointer 281) := {}
instance : aP Tryz.prog 16 1 false 8 [.pointer none] := {}
instance : bq Tryz.prog 17 (.pointer 290) := {}
instance : aP Tryz.prog 17 1 false 8 [.pointer none] := {}
instance : aP Tryz.prog 18 1 true 8 [.pointer none] := {}
instance : eO Tryz.prog 18 0 0 17 := {}
instance : kr Tryz.prog 18 [(0, 1)] := {}
instance : aP Tryz.prog 19 1 true 8 [.pointer none] := {}
instance : eO Tryz.prog 19 0 0 17 := {}
instance : kr Tryz.prog 19 [(0, 1)] := {}
instance : bq Tryz.prog 21 (.int .i32) := {}
instance : aP Tryz.prog 21 1 false 4 [.int .i32 0] := {}
instance : bq Tryz.prog 22 (.slice 96) := {}
instance : aP Tryz.prog 22 1 false 24 [.slice none 0 0] := {}
instance : aP Tryz.prog 23 2 true 32 [.int .i64 0, .slice none 0 0] := {}
instance : eO Tryz.prog 23 0 0 3 := {}
instance : eO Tryz.prog 23 1 1 22 := {}
instance : kr Tryz.prog 23 [(0, 1), (1, 1)] := {}
instance : aP Tryz.prog 24 2 true 32 [.int .i64 0, .slice none 0 0] := {}
instance : eO Tryz.prog 24 0 0 3 := {}
instance : eO Tryz.prog 24 1 1 22 := {}
instance : kr Tryz.prog 24 [(0, 1), (1, 1)] := {}
instance : bq Tryz.prog 27 (.int .i64) := {}
instance : aP Tryz.prog 27 1 false 8 [.int .i64 0] := {}
instance : bq Tryz.prog 33 (.slice 81) := {}
instance : aP Tryz.prog 33 1 false 24 [.slice none 0 0] := {}
instance : bq Tryz.prog 34 (.slice 81) := {}
instance : aP Tryz.prog 34 1 false 24 [.slice none 0 0] := {}
instance : bq Tryz.prog 35 (.slice 3) := {}
instance : aP Tryz.prog 35 1 false 24 [.slice none 0 0] := {}
instance : bq Tryz.prog 37 (.slice 65) := {}
instance : aP Tryz.prog 37 1 false 24 [.slice none 0 0] := {}
instance : aP Tryz.prog 38 2 true 48 [.slice none 0 0, .slice none 0 0] := {}
instance : eO Tryz.prog 38 0 0 35 := {}
instance : eO Tryz.prog 38 1 1 37 := {}
instance : kr Tryz.prog 38 [(0, 1), (1, 1)] := {}
instance : aP Tryz.prog 39 2 true 48 [.slice none 0 0, .slice none 0 0] := {}
instance : eO Tryz.prog 39 0 0 35 := {}
instance : eO Tryz.prog 39 1 1 37 := {}
instance : kr Tryz.prog 39 [(0, 1), (1, 1)] := {}
instance : aP Tryz.prog 62 2 true 24 [.bool false, .string { data := #[] }] := {}
instance : eO Tryz.prog 62 0 0 4 := {}
instance : eO Tryz.prog 62 1 1 9 := {}
instance : kr Tryz.prog 62 [(0, 1), (1, 1)] := {}
instance : aP Tryz.prog 63 2 true 24 [.bool false, .string { data := #[] }] := {}
instance : eO Tryz.prog 63 0 0 4 := {}
instance : eO Tryz.prog 63 1 1 9 := {}
instance : kr Tryz.prog 63 [(0, 1), (1, 1)] := {}
instance : aP Tryz.prog 64 3 true 32 [.bool false, .string { data := #[] }, .int .i64 0] := {}
instance : eO Tryz.prog 64 0 0 63 := {}
instance : eO Tryz.prog 64 1 2 3 := {}
instance : kr Tryz.prog 64 [(0, 2), (2, 1)] := {}
instance : aP Tryz.prog 65 3 true 32 [.bool false, .string { data := #[] }, .int .i64 0] := {}
instance : eO Tryz.prog 65 0 0 63 := {}
instance : eO Tryz.prog 65 1 2 3 := {}
instance : kr Tryz.prog 65 [(0, 2), (2, 1)] := {}
instance : aP Tryz.prog 80 6 true 64 [.bool false, .string { data := #[] }, .int .i64 0, .bool false, .string { data := #[] }, .int .i64 0] := {}
instance : eO Tryz.prog 80 0 0 65 := {}
instance : eO Tryz.prog 80 1 3 65 := {}
instance : kr Tryz.prog 80 [(0, 3), (3, 3)] := {}
instance : aP Tryz.prog 81 6 true 64 [.bool false, .string { data := #[] }, .int .i64 0, .bool false, .string { data := #[] }, .int .i64 0] := {}
instance : eO Tryz.prog 81 0 0 65 := {}
instance : eO Tryz.prog 81 1 3 65 := {}
instance : kr Tryz.prog 81 [(0, 3), (3, 3)] := {}
instance : bq Tryz.prog 91 (.slice 65) := {}
instance : aP Tryz.prog 91 1 false 24 [.slice none 0 0] := {}
instance : aP Tryz.prog 95 4 true 48 [.string { data := #[] }, .bool false, .string { data := #[] }, .int .i64 0] := {}
instance : eO Tryz.prog 95 0 0 9 := {}
instance : eO Tryz.prog 95 1 1 65 := {}
instance : kr Tryz.prog 95 [(0, 1), (1, 3)] := {}
instance : aP Tryz.prog 96 4 true 48 [.string { data := #[] }, .bool false, .string { data := #[] }, .int .i64 0] := {}
instance : eO Tryz.prog 96 0 0 9 := {}
instance : eO Tryz.prog 96 1 1 65 := {}
instance : kr Tryz.prog 96 [(0, 1), (1, 3)] := {}
instance : bq Tryz.prog 101 (.slice 5) := {}
instance : aP Tryz.prog 101 1 false 24 [.slice none 0 0] := {}
instance : bq Tryz.prog 104 (.slice 24) := {}
instance : aP Tryz.prog 104 1 false 24 [.slice none 0 0] := {}
instance : aP Tryz.prog 118 2 true 16 [.int .i64 0, .int .i64 0] := {}
instance : eO Tryz.prog 118 0 0 3 := {}
instance : eO Tryz.prog 118 1 1 3 := {}
instance : kr Tryz.prog 118 [(0, 1), (1, 1)] := {}
instance : aP Tryz.prog 119 2 true 16 [.int .i64 0, .int .i64 0] := {}
instance : eO Tryz.prog 119 0 0 3 := {}
instance : eO Tryz.prog 119 1 1 3 := {}
instance : kr Tryz.prog 119 [(0, 1), (1, 1)] := {}
instance : aP Tryz.prog 125 9 true 96 [.bool false, .string { data := #[] }, .int .i64 0, .bool false, .string { data := #[] }, .int .i64 0, .bool false, .string { data := #[] }, .int .i64 0] := {}
instance : eO Tryz.prog 125 0 0 81 := {}
instance : eO Tryz.prog 125 1 6 65 := {}
instance : kr Tryz.prog 125 [(0, 6), (6, 3)] := {}
instance : aP Tryz.prog 126 9 true 96 [.bool false, .string { data := #[] }, .int .i64 0, .bool false, .string { data := #[] }, .int .i64 0, .bool false, .string { data := #[] }, .int .i64 0] := {}
instance : eO Tryz.prog 126 0 0 81 := {}
instance : eO Tryz.prog 126 1 6 65 := {}
instance : kr Tryz.prog 126 [(0, 6), (6, 3)] := {}
instance : bq Tryz.prog 131 (.int .u64) := {}
instance : aP Tryz.prog 131 1 false 8 [.int .u64 0] := {}
instance : bq Tryz.prog 140 (.slice 9) := {}
instance : aP Tryz.prog 140 1 false 24 [.slice none 0 0] := {}
instance : bq Tryz.prog 155 (.int .i64) := {}
instance : aP Tryz.prog 155 1 false 8 [.int .i64 0] := {}
instance : aP Tryz.prog 156 5 true 56 [.int .i64 0, .bool false, .string { data := #[] }, .bool false, .string { data := #[] }] := {}
instance : eO Tryz.prog 156 0 0 155 := {}
instance : eO Tryz.prog 156 1 1 63 := {}
instance : eO Tryz.prog 156 2 3 63 := {}
instance : kr Tryz.prog 156 [(0, 1), (1, 2), (3, 2)] := {}
instance : aP Tryz.prog 157 5 true 56 [.int .i64 0, .bool false, .string { data := #[] }, .bool false, .string { data := #[] }] := {}
instance : eO Tryz.prog 157 0 0 155 := {}
instance : eO Tryz.prog 157 1 1 63 := {}
instance : eO Tryz.prog 157 2 3 63 := {}
instance : kr Tryz.prog 157 [(0, 1), (1, 2), (3, 2)] := {}
instance : bq Tryz.prog 166 (.slice 168) := {}
instance : aP Tryz.prog 166 1 false 24 [.slice none 0 0] := {}
instance : aP Tryz.prog 167 1 true 24 [.slice none 0 0] := {}
instance : eO Tryz.prog 167 0 0 37 := {}
instance : kr Tryz.prog 167 [(0, 1)] := {}
instance : aP Tryz.prog 168 1 true 24 [.slice none 0 0] := {}
instance : eO Tryz.prog 168 0 0 37 := {}
instance : kr Tryz.prog 168 [(0, 1)] := {}
instance : bq Tryz.prog 181 (.slice 2) := {}
instance : aP Tryz.prog 181 1 false 24 [.slice none 0 0] := {}
instance : aP Tryz.prog 182 6 true 64 [.bool false, .string { data := #[] }, .int .i64 0, .bool false, .string { data := #[] }, .int .i64 0] := {}
instance : eO Tryz.prog 182 0 0 65 := {}
instance : eO Tryz.prog 182 1 3 65 := {}
instance : kr Tryz.prog 182 [(0, 3), (3, 3)] := {}
instance : aP Tryz.prog 183 6 true 64 [.bool false, .string { data := #[] }, .int .i64 0, .bool false, .string { data := #[] }, .int .i64 0] := {}
instance : eO Tryz.prog 183 0 0 65 := {}
instance : eO Tryz.prog 183 1 3 65 := {}
instance : kr Tryz.prog 183 [(0, 3), (3, 3)] := {}
instance : bq Tryz.prog 196 (.slice 63) := {}
instance : aP Tryz.prog 196 1 false 24 [.slice none 0 0] := {}
instance : bq Tryz.prog 197 (.string) := {}
instance : aP Tryz.prog 197 1 false 16 [.string { data := #[] }] := {}
instance : aP Tryz.prog 198 2 true 24 [.string { data := #[] }, .bool false] := {}
instance : eO Tryz.prog 198 0 0 197 := {}
instance : eO Tryz.prog 198 1 1 4 := {}
instance : kr Tryz.prog 198 [(0, 1), (1, 1)] := {}
instance : aP Tryz.prog 199 2 true 24 [.string { data := #[] }, .bool false] := {}
instance : eO Tryz.prog 199 0 0 197 := {}
instance : eO Tryz.prog 199 1 1 4 := {}
instance : kr Tryz.prog 199 [(0, 1), (1, 1)] := {}
instance : bq Tryz.prog 204 (.int .u64) := {}
instance : aP Tryz.prog 204 1 false 8 [.int .u64 0] := {}
instance : bq Tryz.prog 205 (.pointer 168) := {}
instance : aP Tryz.prog 205 1 false 8 [.pointer none] := {}
instance : aP Tryz.prog 206 6 true 64 [.bool false, .string { data := #[] }, .int .i64 0, .bool false, .string { data := #[] }, .int .i64 0] := {}
instance : eO Tryz.prog 206 0 0 81 := {}
instance : kr Tryz.prog 206 [(0, 6)] := {}
instance : aP Tryz.prog 207 6 true 64 [.bool false, .string { data := #[] }, .int .i64 0, .bool false, .string { data := #[] }, .int .i64 0] := {}
instance : eO Tryz.prog 207 0 0 81 := {}
instance : kr Tryz.prog 207 [(0, 6)] := {}
instance : bq Tryz.prog 226 (.slice 204) := {}
instance : aP Tryz.prog 226 1 false 24 [.slice none 0 0] := {}
instance : bq Tryz.prog 227 (.slice 204) := {}
instance : aP Tryz.prog 227 1 false 24 [.slice none 0 0] := {}
instance : bq Tryz.prog 244 (.array 64 5) := {}
instance : aP Tryz.prog 244 64 true 64 [.int .u8 0, .int .u8 0, .int .u8 0, .int .u8 0, .int .u8 0, .int .u8 0, .int .u8 0, .int .u8 0, .int .u8 0, .int .u8 0, .int .u8 0, .int .u8 0, .int .u8 0, .int .u8 0, .int .u8 0, .int .u8 0, .int .u8 0, .int .u8 0, .int .u8 0, .int .u8 0, .int .u8 0, .int .u8 0, .int .u8 0, .int .u8 0, .int .u8 0, .int .u8 0, .int .u8 0, .int .u8 0, .int .u8 0, .int .u8 0, .int .u8 0, .int .u8 0, .int .u8 0, .int .u8 0, .int .u8 0, .int .u8 0, .int .u8 0, .int .u8 0, .int .u8 0, .int .u8 0, .int .u8 0, .int .u8 0, .int .u8 0, .int .u8 0, .int .u8 0, .int .u8 0, .int .u8 0, .int .u8 0, .int .u8 0, .int .u8 0, .int .u8 0, .int .u8 0, .int .u8 0, .int .u8 0, .int .u8 0, .int .u8 0, .int .u8 0, .int .u8 0, .int .u8 0, .int .u8 0, .int .u8 0, .int .u8 0, .int .u8 0, .int .u8 0] := {}
instance : bq Tryz.prog 256 (.array 256 4) := {}
instance : bq Tryz.prog 257 (.array 256 4) := {}
instance : bq Tryz.prog 261 (.pointer 257) := {}
instance : aP Tryz.prog 261 1 false 8 [.pointer none] := {}
instance : bq Tryz.prog 270 (.array 256 5) := {}
instance : aP Tryz.prog 271 2 true 2 [.int .u8 0, .int .u8 0] := {}
instance : eO Tryz.prog 271 0 0 5 := {}
instance : eO Tryz.prog 271 1 1 5 := {}
instance : kr Tryz.prog 271 [(0, 1), (1, 1)] := {}
instance : aP Tryz.prog 272 2 true 2 [.int .u8 0, .int .u8 0] := {}
instance : eO Tryz.prog 272 0 0 5 := {}
instance : eO Tryz.prog 272 1 1 5 := {}
instance : kr Tryz.prog 272 [(0, 1), (1, 1)] := {}
instance : bq Tryz.prog 273 (.array 16 272) := {}
instance : aP Tryz.prog 273 32 true 32 [.int .u8 0, .int .u8 0, .int .u8 0, .int .u8 0, .int .u8 0, .int .u8 0, .int .u8 0, .int .u8 0, .int .u8 0, .int .u8 0, .int .u8 0, .int .u8 0, .int .u8 0, .int .u8 0, .int .u8 0, .int .u8 0, .int .u8 0, .int .u8 0, .int .u8 0, .int .u8 0, .int .u8 0, .int .u8 0, .int .u8 0, .int .u8 0, .int .u8 0, .int .u8 0, .int .u8 0, .int .u8 0, .int .u8 0, .int .u8 0, .int .u8 0, .int .u8 0] := {}
instance : aP Tryz.prog 277 4 true 40 [.pointer none, .pointer none, .pointer none, .string { data := #[] }] := {}
instance : eO Tryz.prog 277 0 0 17 := {}
instance : eO Tryz.prog 277 1 1 17 := {}
instance : eO Tryz.prog 277 2 2 17 := {}
instance : eO Tryz.prog 277 3 3 9 := {}
instance : kr Tryz.prog 277 [(0, 1), (1, 1), (2, 1), (3, 1)] := {}
instance : aP Tryz.prog 278 4 true 40 [.pointer none, .pointer none, .pointer none, .string { data := #[] }] := {}
instance : eO Tryz.prog 278 0 0 17 := {}
instance : eO Tryz.prog 278 1 1 17 := {}
instance : eO Tryz.prog 278 2 2 17 := {}
instance : eO Tryz.prog 278 3 3 9 := {}
instance : kr Tryz.prog 278 [(0, 1), (1, 1), (2, 1), (3, 1)] := {}
instance : bq Tryz.prog 279 (.array 0 16) := {}
instance : aP Tryz.prog 279 0 true 0 [] := {}
instance : aP Tryz.prog 280 0 true 0 [] := {}
instance : kr Tryz.prog 280 [(0, 0)] := {}
instance : aP Tryz.prog 281 0 true 0 [] := {}
instance : kr Tryz.prog 281 [(0, 0)] := {}
instance : bq Tryz.prog 282 (.int .u32) := {}
instance : aP Tryz.prog 282 1 false 4 [.int .u32 0] := {}
instance : bq Tryz.prog 283 (.int .u8) := {}
instance : aP Tryz.prog 283 1 false 1 [.int .u8 0] := {}
instance : bq Tryz.prog 284 (.int .u8) := {}
instance : aP Tryz.prog 284 1 false 1 [.int .u8 0] := {}
instance : bq Tryz.prog 286 (.pointer 5) := {}
instance : aP Tryz.prog 286 1 false 8 [.pointer none] := {}
instance : bq Tryz.prog 287 (.int .i32) := {}
instance : aP Tryz.prog 287 1 false 4 [.int .i32 0] := {}
instance : bq Tryz.prog 288 (.int .i32) := {}
instance : aP Tryz.prog 288 1 false 4 [.int .i32 0] := {}
instance : aP Tryz.prog 289 11 true 48 [.int .u64 0, .int .u64 0, .int .u32 0, .int .u8 0, .int .u8 0, .int .u8 0, .int .u8 0, .nilFunc, .pointer none, .int .i32 0, .int .i32 0] := {}
instance : aP Tryz.prog 290 11 true 48 [.int .u64 0, .int .u64 0, .int .u32 0, .int .u8 0, .int .u8 0, .int .u8 0, .int .u8 0, .nilFunc, .pointer none, .int .i32 0, .int .i32 0] := {}
theorem mixed : Tryz.prog.follows .mixedOrders = true := by kernel_rfl
instance : ak Tryz.prog 3 := {}
instance : ak Tryz.prog 4 := {}
instance : ak Tryz.prog 5 := {}
instance : ak Tryz.prog 6 := {}
instance : ak Tryz.prog 7 := {}
instance : ak Tryz.prog 8 := {}
instance : ak Tryz.prog 9 := {}
instance : ak Tryz.prog 10 := {}
instance : ak Tryz.prog 11 := {}
instance : ak Tryz.prog 12 := {}
instance : ak Tryz.prog 13 := {}
instance : ak Tryz.prog 14 := {}
instance : ak Tryz.prog 15 := {}
instance : ak Tryz.prog 16 := {}
instance : ak Tryz.prog 17 := {}
instance : ak Tryz.prog 18 := {}
instance : ak Tryz.prog 19 := {}
instance : ak Tryz.prog 20 := {}
instance : ak Tryz.prog 21 := {}
instance : ak Tryz.prog 22 := {}
instance : ak Tryz.prog 23 := {}
instance : ak Tryz.prog 24 := {}
instance : ak Tryz.prog 25 := {}
instance : ak Tryz.prog 26 := {}
instance : ak Tryz.prog 27 := {}
instance : ak Tryz.prog 28 := {}
instance : ak Tryz.prog 29 := {}
instance : ak Tryz.prog 30 := {}
instance : ak Tryz.prog 31 := {}
instance : ak Tryz.prog 32 := {}
instance : ak Tryz.prog 33 := {}
instance : ak Tryz.prog 34 := {}
instance : ak Tryz.prog 35 := {}
instance : ak Tryz.prog 36 := {}
instance : ak Tryz.prog 37 := {}
instance : ak Tryz.prog 38 := {}
instance : ak Tryz.prog 39 := {}
instance : ak Tryz.prog 40 := {}
instance : ak Tryz.prog 41 := {}
instance : ak Tryz.prog 42 := {}
instance : ak Tryz.prog 43 := {}
instance : ak Tryz.prog 44 := {}
instance : ak Tryz.prog 45 := {}
instance : ak Tryz.prog 46 := {}
instance : ak Tryz.prog 47 := {}
instance : ak Tryz.prog 48 := {}
instance : ak Tryz.prog 49 := {}
instance : ak Tryz.prog 50 := {}
instance : ak Tryz.prog 51 := {}
instance : ak Tryz.prog 52 := {}
instance : ak Tryz.prog 53 := {}
instance : ak Tryz.prog 54 := {}
instance : ak Tryz.prog 55 := {}
instance : ak Tryz.prog 56 := {}
instance : ak Tryz.prog 57 := {}
instance : ak Tryz.prog 58 := {}
instance : ak Tryz.prog 59 := {}
instance : ak Tryz.prog 60 := {}
instance : ak Tryz.prog 61 := {}
instance : ak Tryz.prog 62 := {}
instance : ak Tryz.prog 63 := {}
instance : ak Tryz.prog 64 := {}
instance : ak Tryz.prog 65 := {}
instance : ak Tryz.prog 66 := {}
instance : ak Tryz.prog 67 := {}
instance : ak Tryz.prog 68 := {}
instance : ak Tryz.prog 69 := {}
instance : ak Tryz.prog 70 := {}
instance : ak Tryz.prog 71 := {}
instance : ak Tryz.prog 72 := {}
instance : ak Tryz.prog 73 := {}
instance : ak Tryz.prog 74 := {}
instance : ak Tryz.prog 75 := {}
instance : ak Tryz.prog 76 := {}
instance : ak Tryz.prog 77 := {}
instance : ak Tryz.prog 78 := {}
instance : ak Tryz.prog 79 := {}
instance : ak Tryz.prog 80 := {}
instance : ak Tryz.prog 81 := {}
instance : ak Tryz.prog 82 := {}
instance : ak Tryz.prog 83 := {}
instance : ak Tryz.prog 84 := {}
instance : ak Tryz.prog 85 := {}
instance : ak Tryz.prog 86 := {}
instance : ak Tryz.prog 87 := {}
instance : ak Tryz.prog 88 := {}
instance : ak Tryz.prog 89 := {}
instance : ak Tryz.prog 90 := {}
instance : ak Tryz.prog 91 := {}
instance : ak Tryz.prog 92 := {}
instance : ak Tryz.prog 93 := {}
instance : ak Tryz.prog 94 := {}
instance : ak Tryz.prog 95 := {}
instance : ak Tryz.prog 96 := {}
instance : ak Tryz.prog 97 := {}
instance : ak Tryz.prog 98 := {}
instance : ak Tryz.prog 99 := {}
instance : ak Tryz.prog 100 := {}
instance : ak Tryz.prog 101 := {}
instance : ak Tryz.prog 102 := {}
instance : ak Tryz.prog 103 := {}
instance : ak Tryz.prog 104 := {}
instance : ak Tryz.prog 105 := {}
instance : ak Tryz.prog 106 := {}
instance : ak Tryz.prog 107 := {}
instance : ak Tryz.prog 108 := {}
instance : ak Tryz.prog 109 := {}
instance : ak Tryz.prog 110 := {}
instance : ak Tryz.prog 111 := {}
instance : ak Tryz.prog 112 := {}
instance : ak Tryz.prog 113 := {}
instance : ak Tryz.prog 114 := {}
instance : ak Tryz.prog 115 := {}
instance : ak Tryz.prog 116 := {}
instance : ak Tryz.prog 117 := {}
instance : ak Tryz.prog 118 := {}
instance : ak Tryz.prog 119 := {}
instance : ak Tryz.prog 120 := {}
instance : ak Tryz.prog 121 := {}
instance : ak Tryz.prog 122 := {}
instance : ak Tryz.prog 123 := {}
instance : ak Tryz.prog 124 := {}
instance : ak Tryz.prog 125 := {}
instance : ak Tryz.prog 126 := {}
instance : ak Tryz.prog 127 := {}
instance : ak Tryz.prog 128 := {}
instance : ak Tryz.prog 129 := {}
instance : ak Tryz.prog 130 := {}
instance : ak Tryz.prog 131 := {}
instance : ak Tryz.prog 132 := {}
instance : ak Tryz.prog 133 := {}
instance : ak Tryz.prog 134 := {}
instance : ak Tryz.prog 135 := {}
instance : ak Tryz.prog 136 := {}
instance : ak Tryz.prog 137 := {}
instance : ak Tryz.prog 138 := {}
instance : ak Tryz.prog 139 := {}
instance : ak Tryz.prog 140 := {}
instance : ak Tryz.prog 141 := {}
instance : ak Tryz.prog 142 := {}
instance : ak Tryz.prog 143 := {}
instance : ak Tryz.prog 144 := {}
instance : ak Tryz.prog 145 := {}
instance : ak Tryz.prog 146 := {}
instance : ak Tryz.prog 147 := {}
instance : ak Tryz.prog 148 := {}
instance : ak Tryz.prog 149 := {}
instance : ak Tryz.prog 150 := {}
instance : ak Tryz.prog 151 := {}
instance : ak Tryz.prog 152 := {}
instance : ak Tryz.prog 153 := {}
instance : ak Tryz.prog 154 := {}
instance : ak Tryz.prog 155 := {}
instance : ak Tryz.prog 156 := {}
instance : ak Tryz.prog 157 := {}
instance : ak Tryz.prog 158 := {}
instance : ak Tryz.prog 159 := {}
instance : ak Tryz.prog 160 := {}
instance : ak Tryz.prog 161 := {}
instance : ak Tryz.prog 162 := {}
instance : ak Tryz.prog 163 := {}
instance : ak Tryz.prog 164 := {}
instance : ak Tryz.prog 165 := {}
instance : ak Tryz.prog 166 := {}
instance : ak Tryz.prog 167 := {}
instance : ak Tryz.prog 168 := {}
instance : ak Tryz.prog 169 := {}
instance : ak Tryz.prog 170 := {}
instance : ak Tryz.prog 171 := {}
instance : ak Tryz.prog 172 := {}
instance : ak Tryz.prog 173 := {}
instance : ak Tryz.prog 174 := {}
instance : ak Tryz.prog 175 := {}
instance : ak Tryz.prog 176 := {}
instance : ak Tryz.prog 177 := {}
instance : ak Tryz.prog 178 := {}
instance : ak Tryz.prog 179 := {}
instance : ak Tryz.prog 180 := {}
instance : ak Tryz.prog 181 := {}
instance : ak Tryz.prog 182 := {}
instance : ak Tryz.prog 183 := {}
instance : ak Tryz.prog 184 := {}
instance : ak Tryz.prog 185 := {}
instance : ak Tryz.prog 186 := {}
instance : ak Tryz.prog 187 := {}
instance : ak Tryz.prog 188 := {}
instance : ak Tryz.prog 189 := {}
instance : ak Tryz.prog 190 := {}
instance : ak Tryz.prog 191 := {}
instance : ak Tryz.prog 192 := {}
instance : ak Tryz.prog 193 := {}
instance : ak Tryz.prog 194 := {}
instance : ak Tryz.prog 195 := {}
instance : ak Tryz.prog 196 := {}
instance : ak Tryz.prog 197 := {}
instance : ak Tryz.prog 198 := {}
instance : ak Tryz.prog 199 := {}
instance : ak Tryz.prog 200 := {}
instance : ak Tryz.prog 201 := {}
instance : ak Tryz.prog 202 := {}
instance : ak Tryz.prog 203 := {}
instance : ak Tryz.prog 204 := {}
instance : ak Tryz.prog 205 := {}
instance : ak Tryz.prog 206 := {}
instance : ak Tryz.prog 207 := {}
instance : ak Tryz.prog 208 := {}
instance : ak Tryz.prog 209 := {}
instance : ak Tryz.prog 210 := {}
instance : ak Tryz.prog 211 := {}
instance : ak Tryz.prog 212 := {}
instance : ak Tryz.prog 213 := {}
instance : ak Tryz.prog 214 := {}
instance : ak Tryz.prog 215 := {}
instance : ak Tryz.prog 216 := {}
instance : ak Tryz.prog 217 := {}
instance : ak Tryz.prog 218 := {}
instance : ak Tryz.prog 219 := {}
instance : ak Tryz.prog 220 := {}
instance : ak Tryz.prog 221 := {}
instance : ak Tryz.prog 222 := {}
instance : ak Tryz.prog 223 := {}
instance : ak Tryz.prog 224 := {}
instance : ak Tryz.prog 225 := {}
instance : ak Tryz.prog 226 := {}
instance : ak Tryz.prog 227 := {}
instance : ak Tryz.prog 228 := {}
instance : ak Tryz.prog 229 := {}
instance : ak Tryz.prog 230 := {}
instance : ak Tryz.prog 231 := {}
instance : ak Tryz.prog 232 := {}
instance : ak Tryz.prog 233 := {}
instance : ak Tryz.prog 234 := {}
instance : ak Tryz.prog 235 := {}
instance : ak Tryz.prog 236 := {}
instance : ak Tryz.prog 237 := {}
instance : ak Tryz.prog 238 := {}
instance : ak Tryz.prog 239 := {}
instance : ak Tryz.prog 240 := {}
instance : ak Tryz.prog 241 := {}
instance : ak Tryz.prog 242 := {}
instance : ak Tryz.prog 243 := {}
instance : ak Tryz.prog 244 := {}
instance : ak Tryz.prog 245 := {}
instance : ak Tryz.prog 246 := {}
instance : ak Tryz.prog 247 := {}
instance : ak Tryz.prog 248 := {}
instance : ak Tryz.prog 249 := {}
instance : ak Tryz.prog 250 := {}
instance : ak Tryz.prog 251 := {}
instance : ak Tryz.prog 252 := {}
instance : ak Tryz.prog 253 := {}
instance : ak Tryz.prog 254 := {}
instance : ak Tryz.prog 255 := {}
instance : ak Tryz.prog 256 := {}
instance : ak Tryz.prog 257 := {}
instance : ak Tryz.prog 258 := {}
instance : ak Tryz.prog 259 := {}
instance : ak Tryz.prog 260 := {}
instance : ak Tryz.prog 263 := {}
instance : ak Tryz.prog 264 := {}
instance : ak Tryz.prog 265 := {}
instance : ak Tryz.prog 266 := {}
instance : ak Tryz.prog 267 := {}
instance : ak Tryz.prog 268 := {}
instance : ak Tryz.prog 269 := {}
instance : ak Tryz.prog 270 := {}
instance : ak Tryz.prog 271 := {}
instance : ak Tryz.prog 273 := {}
instance : ak Tryz.prog 274 := {}
instance : ak Tryz.prog 275 := {}
instance : ak Tryz.prog 276 := {}
instance : ak Tryz.prog 277 := {}
instance : ak Tryz.prog 278 := {}
end Go.Proofs.YteeckcbbnegmcaaGreatDoor
