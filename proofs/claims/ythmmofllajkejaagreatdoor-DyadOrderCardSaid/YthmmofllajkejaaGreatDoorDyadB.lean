/- The walks through the program's dyadic numbers (dyad): order, sums, products. -/
import Derived.Test.YthmmofllajkejaaGreatDoorDyad
namespace Go.Proofs.YthmmofllajkejaaGreatDoor
open Go.RowKit
-- umode
def cmpD (x y : Dyadic) : Int := if x < y then -1 else if y < x then 1 else 0
theorem cmp_sign (i j p : Int) : (i - j).sign = cmpD (Dyadic.ofIntWithPrec i p) (Dyadic.ofIntWithPrec j p) := by
  unfold cmpD
  simp only [owp_lt]
  rcases Int.lt_trichotomy i j with h | h | h
  · rw [if_pos h, Int.sign_eq_neg_one_of_neg (by omega)]
  · subst h; simp
  · rw [if_neg (by omega), if_pos h, Int.sign_eq_one_of_pos (by omega)]
theorem sign_d (i p : Int) : i.sign = cmpD (Dyadic.ofIntWithPrec i p) 0 := by
  have := cmp_sign i 0 p
  rwa [Int.sub_zero, owp_zero] at this
theorem NR.sign (a : NR) : a.i.sign = cmpD a.d 0 := sign_d _ _
theorem cmpD_lvl (x y : Dyadic) : (intAt x (lvlP x y) - intAt y (lvlP x y)).sign = cmpD x y := by
  rw [cmp_sign _ _ (lvlP x y), lvl_x, lvl_y]
theorem sign_diff (X Y : Int) (h : X.sign ≠ Y.sign) : (if (if X.sign - Y.sign < 1 then X.sign - Y.sign else 1) > -1 then (if X.sign - Y.sign < 1 then X.sign - Y.sign else 1) else -1) = (X - Y).sign := by
  rcases Int.lt_trichotomy X 0 with hx | hx | hx <;> rcases Int.lt_trichotomy Y 0 with hy | hy | hy
  · rw [Int.sign_eq_neg_one_of_neg hx, Int.sign_eq_neg_one_of_neg hy] at h; omega
  · rw [Int.sign_eq_neg_one_of_neg hx, hy, Int.sub_zero, Int.sign_eq_neg_one_of_neg hx]; simp
  · rw [Int.sign_eq_neg_one_of_neg hx, Int.sign_eq_one_of_pos hy, Int.sign_eq_neg_one_of_neg (by omega)]; simp
  · subst hx; rw [Int.sign_zero, Int.sign_eq_neg_one_of_neg hy, Int.sign_eq_one_of_pos (a := 0 - Y) (by omega)]; simp
  · rw [hx, hy] at h; omega
  · subst hx; rw [Int.sign_zero, Int.sign_eq_one_of_pos hy, Int.sign_eq_neg_one_of_neg (a := 0 - Y) (by omega)]; simp
  · rw [Int.sign_eq_one_of_pos hx, Int.sign_eq_neg_one_of_neg hy, Int.sign_eq_one_of_pos (by omega)]; simp
  · rw [Int.sign_eq_one_of_pos hx, hy, Int.sub_zero, Int.sign_eq_one_of_pos hx]; simp
  · rw [Int.sign_eq_one_of_pos hx, Int.sign_eq_one_of_pos hy] at h; omega
theorem lvl_sizes {a b : NR} (ha : a.ok) (hb : b.ok) : (iM (intAt a.d (lvlP a.d b.d))).size ≤ 6000000 ∧ (iM (intAt b.d (lvlP a.d b.d))).size ≤ 6000000 ∧ -18000000 ≤ lvlP a.d b.d ∧ lvlP a.d b.d ≤ 18000000 := by
  obtain ⟨_, fa1, fa2, fa3⟩ := raw_form ha
  obtain ⟨_, fb1, fb2, fb3⟩ := raw_form hb
  have hP := lvlP_bd a.d b.d 18000000 (by omega) (by omega)
  have h1 := intAt_blen a.d (lvlP a.d b.d)
  have h2 := intAt_blen b.d (lvlP a.d b.d)
  rw [iM_size, iM_size]
  refine ⟨by omega, by omega, hP.1, hP.2⟩
theorem sign_bd (i : Int) : -1 ≤ i.sign ∧ i.sign ≤ 1 := by
  rcases Int.lt_trichotomy i 0 with h | h | h
  · rw [Int.sign_eq_neg_one_of_neg h]; omega
  · rw [h]; simp
  · rw [Int.sign_eq_one_of_pos h]; omega
theorem dCmp_calls (a b : NR) (w : World) (hT : Tab w) (ha : a.ok) (hb : b.ok) :
    Calls Tryz.prog 13 #[.agg #[.bool a.neg, .string a.mag, .int .i64 a.e], .agg #[.bool b.neg, .string b.mag, .int .i64 b.e]] w fun r w' => r = .returned (.int .i64 (cmpD a.d b.d)) ∧ Below w.heap.size w w' := by
  have hh := Hp.start w
  obtain ⟨hs1, hs2, _⟩ := lvl_sizes ha hb
  have hsa : a.i.sign = (intAt a.d (lvlP a.d b.d)).sign := by rw [NR.sign, sign_d _ (lvlP a.d b.d), lvl_x]
  have hsb : b.i.sign = (intAt b.d (lvlP a.d b.d)).sign := by rw [NR.sign, sign_d _ (lvlP a.d b.d), lvl_y]
  have hba := sign_bd a.i
  have hbb := sign_bd b.i
  by_cases hne : a.i.sign = b.i.sign
  · refine calls_vc (N := 28) (l := [.agg #[.bool a.neg, .string a.mag, .int .i64 a.e], .agg #[.bool b.neg, .string b.mag, .int .i64 b.e]]) Tryz.func13 rfl rfl (by simp) ?_
    refine wc_seq ?_
    refine wc_region ?_
    refine wl_box hh (cs := [_, _, _]) rfl rfl (by decide) ?_
    intro b2 w2 hh
    refine wl_box hh (cs := [_, _, _]) rfl rfl (by decide) ?_
    intro b3 w3 hh
    refine s_assign (ev_int rfl) (by decide) ?_
    refine wl_end ?_
    refine wc_seq ?_
    refine wc_seq ?_
    -- at the drawn region 1
    refine wc_drawn 3 [[(2, none)], [(8, some 0)], [(3, none)]] [(2, 10), (1, 9), (0, 8)] hh mixed (by kernel_rfl) ?_
    refine dx_val (i := 0) (fun ρ1 w1 hj hR => x_load (vs := [_, _, _]) TIs.out (show ρ1 2 = Value.pointer _ from hR.1) (hj.hp.rd_blk_at (i := 1) (n := 3) rfl rfl) rfl) ?_
    refine dx_call (i := 1) (fun ρ1 w1 hj hR => run_callf FnIs.out (evs_cons (show ρ1 8 = Value.agg (List.toArray _) from hR.1) evs_nil)) (fun w1 hj => dSign_calls a _) ?_
    refine dx_val (i := 2) (fun ρ1 w1 hj hR => x_load (vs := [_, _, _]) TIs.out (show ρ1 3 = Value.pointer _ from hR.1) (hj.hp.rd_blk_at (i := 0) (n := 3) rfl rfl) rfl) ?_
    refine dx_nil ?_
    intro f W hJ hV
    have hb_1 := hJ.bl
    obtain ⟨v10, v9, v8, _⟩ := hV
    simp only [updL]
    have e8 : f 0 = _ := v8
    rw [e8]
    have e9 : f 1 = _ := v9
    rw [e9]
    have e10 : f 2 = _ := v10
    rw [e10]
    replace hh := hJ.hp
    clear e8 e9 e10 hJ
    -- at some 11 := Op.call { callee := Callee.value (Operand.func 19), args := #[Operand.tmp 10], argTypes :=
    refine s_callf (dSign_calls b _) FnIs.out rfl (by decide) ?_
    rintro e_ w11 ⟨rfl, hb_⟩
    refine ⟨_, rfl, ?_⟩
    replace hh := hh.ext hb_
    refine s_assign (ev_int rfl) (by decide) ?_
    refine s_assign (ev_int rfl) (by decide) ?_
    refine wl_end ?_
    refine wc_seq ?_
    refine wc_region ?_
    refine s_move (ev_int rfl) (by decide) ?_
    refine s_move (ev_int rfl) (by decide) ?_
    first | refine s_neq_t rfl rfl (by omega) (by decide) ?_ | refine s_neq_f rfl rfl (by omega) (by decide) ?_ | refine s_neq_v rfl rfl (by decide) ?_
    refine wl_end ?_
    refine wc_cond_f rfl ?_
    refine wc_skip ?_
    refine k_then ?_
    refine wc_seq ?_
    refine wc_region ?_
    refine s_load (vs := [_, _, _]) TIs.out rfl (hh.rd_blk_at (i := 1) (n := 3) rfl rfl) rfl (by decide) ?_
    refine s_load (vs := [_, _, _]) TIs.out rfl (hh.rd_blk_at (i := 0) (n := 3) rfl rfl) rfl (by decide) ?_
    -- at some 22 := Op.call { callee := Callee.value (Operand.func 61), args := #[Operand.tmp 20, Operand.tmp 
    refine s_callf (dlevel_calls a b _ (hT.hp hh) ha hb) FnIs.out rfl (by decide) ?_
    rintro e_ w22 ⟨rfl, hb_⟩
    refine ⟨_, rfl, ?_⟩
    replace hh := hh.ext hb_
    refine wl_alloc hh TIs.out (by decide) ?_
    intro b7 w7 hh
    refine wl_store hh (i := 0) (vs := [_, _, _, _, _]) rfl rfl rfl rfl TIs.out rfl (by simp) rfl ?_
    intro ws hh
    replace hh : Hp _ (.blk _ _ [_, _, _, _, _] _ :: _) _ := hh
    refine wl_end ?_
    refine wc_seq ?_
    refine wc_region ?_
    refine s_fieldAddr (off := 1) FIs.out rfl (by decide) ?_
    refine s_load (vs := [_, _]) TIs.out rfl (hh.rd_blk_at (i := 0) (n := 2) rfl rfl) rfl (by decide) ?_
    refine s_fieldAddr (off := 3) FIs.out rfl (by decide) ?_
    refine s_load (vs := [_, _]) TIs.out rfl (hh.rd_blk_at (i := 0) (n := 2) rfl rfl) rfl (by decide) ?_
    -- at some 27 := Op.call { callee := Callee.value (Operand.func 62), args := #[Operand.tmp 24, Operand.tmp 
    refine s_callf (wCmp_calls _ _ _ _ _ (by omega) (by omega)) FnIs.out rfl (by decide) ?_
    rintro e_ w27 ⟨rfl, hb_⟩
    refine ⟨_, rfl, ?_⟩
    replace hh := hh.ext hb_
    rw [iv_of, iv_of, cmpD_lvl]
    refine s_assign (ev_int rfl) (by decide) ?_
    refine wl_end ?_
    refine wc_ret ?_
    -- at ('end', 'ret')
    refine ret1 (by first | exact .inr rfl | exact .inl rfl) rfl (v_int rfl) ?_
    exact ⟨rfl, hh.below⟩
  · refine calls_vc (N := 28) (l := [.agg #[.bool a.neg, .string a.mag, .int .i64 a.e], .agg #[.bool b.neg, .string b.mag, .int .i64 b.e]]) Tryz.func13 rfl rfl (by simp) ?_
    refine wc_seq ?_
    refine wc_region ?_
    refine wl_box hh (cs := [_, _, _]) rfl rfl (by decide) ?_
    intro b2 w2 hh
    refine wl_box hh (cs := [_, _, _]) rfl rfl (by decide) ?_
    intro b3 w3 hh
    refine s_assign (ev_int rfl) (by decide) ?_
    refine wl_end ?_
    refine wc_seq ?_
    refine wc_seq ?_
    -- at the drawn region 1
    refine wc_drawn 3 [[(2, none)], [(8, some 0)], [(3, none)]] [(2, 10), (1, 9), (0, 8)] hh mixed (by kernel_rfl) ?_
    refine dx_val (i := 0) (fun ρ1 w1 hj hR => x_load (vs := [_, _, _]) TIs.out (show ρ1 2 = Value.pointer _ from hR.1) (hj.hp.rd_blk_at (i := 1) (n := 3) rfl rfl) rfl) ?_
    refine dx_call (i := 1) (fun ρ1 w1 hj hR => run_callf FnIs.out (evs_cons (show ρ1 8 = Value.agg (List.toArray _) from hR.1) evs_nil)) (fun w1 hj => dSign_calls a _) ?_
    refine dx_val (i := 2) (fun ρ1 w1 hj hR => x_load (vs := [_, _, _]) TIs.out (show ρ1 3 = Value.pointer _ from hR.1) (hj.hp.rd_blk_at (i := 0) (n := 3) rfl rfl) rfl) ?_
    refine dx_nil ?_
    intro f W hJ hV
    have hb_1 := hJ.bl
    obtain ⟨v10, v9, v8, _⟩ := hV
    simp only [updL]
    have e8 : f 0 = _ := v8
    rw [e8]
    have e9 : f 1 = _ := v9
    rw [e9]
    have e10 : f 2 = _ := v10
    rw [e10]
    replace hh := hJ.hp
    clear e8 e9 e10 hJ
    -- at some 11 := Op.call { callee := Callee.value (Operand.func 19), args := #[Operand.tmp 10], argTypes :=
    refine s_callf (dSign_calls b _) FnIs.out rfl (by decide) ?_
    rintro e_ w11 ⟨rfl, hb_⟩
    refine ⟨_, rfl, ?_⟩
    replace hh := hh.ext hb_
    refine s_assign (ev_int rfl) (by decide) ?_
    refine s_assign (ev_int rfl) (by decide) ?_
    refine wl_end ?_
    refine wc_seq ?_
    refine wc_region ?_
    refine s_move (ev_int rfl) (by decide) ?_
    refine s_move (ev_int rfl) (by decide) ?_
    first | refine s_neq_t rfl rfl (by omega) (by decide) ?_ | refine s_neq_f rfl rfl (by omega) (by decide) ?_ | refine s_neq_v rfl rfl (by decide) ?_
    refine wl_end ?_
    refine wc_cond_t rfl ?_
    refine wc_seq ?_
    refine wc_region ?_
    refine s_move (ev_int rfl) (by decide) ?_
    refine s_move (ev_int rfl) (by decide) ?_
    refine s_subi rfl rfl (by omega) (by omega) (by decide) ?_
    refine s_min rfl rfl (by decide) ?_
    refine s_max rfl rfl (by decide) ?_
    refine s_assign (ev_int rfl) (by decide) ?_
    refine wl_end ?_
    refine wc_ret ?_
    refine k_ret ?_
    -- at ('end', 'ret')
    refine ret1 (by first | exact .inr rfl | exact .inl rfl) rfl (v_int rfl) ?_
    refine ⟨?_, hh.below⟩
    rw [hsa, hsb] at hne
    rw [hsa, hsb, ← cmpD_lvl a.d b.d, ← sign_diff _ _ hne]
theorem dAbs_calls (a : NR) (w : World) (hT : Tab w) (ha : a.mag.size ≤ 100000000) (h1 : -1000000000000 ≤ a.e) (h2 : a.e ≤ 1000000000000) :
    Calls Tryz.prog 21 #[.agg #[.bool a.neg, .string a.mag, .int .i64 a.e]] w fun r w' => r = .returned (.agg #[.bool (nR (if a.d < 0 then -a.d else a.d)).neg, .string (nR (if a.d < 0 then -a.d else a.d)).mag, .int .i64 (nR (if a.d < 0 then -a.d else a.d)).e]) ∧ Below w.heap.size w w' := by
  have hh := Hp.start w
  have hs := NR.sign a
  by_cases h0 : a.d < 0
  · have hs2 : a.i.sign = -1 := by rw [hs, cmpD, if_pos h0]
    rw [if_pos h0]
    refine calls_vc (N := 10) (l := [.agg #[.bool a.neg, .string a.mag, .int .i64 a.e]]) Tryz.func21 rfl rfl (by simp) ?_
    refine wc_seq ?_
    refine wc_region ?_
    refine wl_box hh (cs := [_, _, _]) rfl rfl (by decide) ?_
    intro b1 w1 hh
    refine wl_alloc hh TIs.out (by decide) ?_
    intro b2 w2 hh
    refine wl_end ?_
    refine wc_seq ?_
    refine wc_seq ?_
    refine wc_region ?_
    refine s_load (vs := [_, _, _]) TIs.out rfl (hh.rd_blk_at (i := 1) (n := 3) rfl rfl) rfl (by decide) ?_
    -- at some 4 := Op.call { callee := Callee.value (Operand.func 19), args := #[Operand.tmp 3], argTypes := 
    refine s_callf (dSign_calls a _) FnIs.out rfl (by decide) ?_
    rintro e_ w4 ⟨rfl, hb_⟩
    refine ⟨_, rfl, ?_⟩
    replace hh := hh.ext hb_
    rw [hs2]
    first | refine s_lss_t rfl rfl (by omega) (by decide) ?_ | refine s_lss_f rfl rfl (by omega) (by decide) ?_ | refine s_lss_v rfl rfl (by decide) ?_
    refine wl_end ?_
    refine wc_cond_t rfl ?_
    refine wc_seq ?_
    refine wc_region ?_
    refine s_load (vs := [_, _, _]) TIs.out rfl (hh.rd_blk_at (i := 1) (n := 3) rfl rfl) rfl (by decide) ?_
    -- at some 7 := Op.call { callee := Callee.value (Operand.func 69), args := #[Operand.tmp 6], argTypes := 
    refine s_callf (dNeg_calls a _ (hT.hp hh) ha h1 h2) FnIs.out rfl (by decide) ?_
    rintro e_ w7 ⟨rfl, hb_⟩
    refine ⟨_, rfl, ?_⟩
    replace hh := hh.ext hb_
    refine wl_store hh (i := 0) (vs := [_, _, _]) rfl rfl rfl rfl TIs.out rfl (by simp) rfl ?_
    intro ws hh
    replace hh : Hp _ (.blk _ _ [_, _, _] _ :: _) _ := hh
    refine wl_end ?_
    refine wc_ret ?_
    refine k_ret ?_
    -- at ('end', 'ret')
    refine retc1 (by first | exact .inr rfl | exact .inl rfl) rfl (r_cell rfl (lv_agg (vs := [_, _, _]) TIs.out (hh.rd_blk_at (i := 0) (n := 3) rfl rfl) rfl) r_nil) ?_
    exact ⟨rfl, hh.below⟩
  · have hs2 : ¬ a.i.sign < 0 := by rw [hs, cmpD, if_neg h0]; split <;> omega
    rw [if_neg h0]
    refine calls_vc (N := 10) (l := [.agg #[.bool a.neg, .string a.mag, .int .i64 a.e]]) Tryz.func21 rfl rfl (by simp) ?_
    refine wc_seq ?_
    refine wc_region ?_
    refine wl_box hh (cs := [_, _, _]) rfl rfl (by decide) ?_
    intro b1 w1 hh
    refine wl_alloc hh TIs.out (by decide) ?_
    intro b2 w2 hh
    refine wl_end ?_
    refine wc_seq ?_
    refine wc_seq ?_
    refine wc_region ?_
    refine s_load (vs := [_, _, _]) TIs.out rfl (hh.rd_blk_at (i := 1) (n := 3) rfl rfl) rfl (by decide) ?_
    -- at some 4 := Op.call { callee := Callee.value (Operand.func 19), args := #[Operand.tmp 3], argTypes := 
    refine s_callf (dSign_calls a _) FnIs.out rfl (by decide) ?_
    rintro e_ w4 ⟨rfl, hb_⟩
    refine ⟨_, rfl, ?_⟩
    replace hh := hh.ext hb_
    first | refine s_lss_t rfl rfl (by omega) (by decide) ?_ | refine s_lss_f rfl rfl (by omega) (by decide) ?_ | refine s_lss_v rfl rfl (by decide) ?_
    refine wl_end ?_
    refine wc_cond_f rfl ?_
    refine wc_skip ?_
    refine k_then ?_
    refine wc_seq ?_
    refine wc_region ?_
    refine s_load (vs := [_, _, _]) TIs.out rfl (hh.rd_blk_at (i := 1) (n := 3) rfl rfl) rfl (by decide) ?_
    -- at some 9 := Op.call { callee := Callee.value (Operand.func 20), args := #[Operand.tmp 8], argTypes := 
    refine s_callf (dForm_calls a _ (hT.hp hh) ha h1 h2) FnIs.out rfl (by decide) ?_
    rintro e_ w9 ⟨rfl, hb_⟩
    refine ⟨_, rfl, ?_⟩
    replace hh := hh.ext hb_
    refine wl_store hh (i := 0) (vs := [_, _, _]) rfl rfl rfl rfl TIs.out rfl (by simp) rfl ?_
    intro ws hh
    replace hh : Hp _ (.blk _ _ [_, _, _] _ :: _) _ := hh
    refine wl_end ?_
    refine wc_ret ?_
    -- at ('end', 'ret')
    refine retc1 (by first | exact .inr rfl | exact .inl rfl) rfl (r_cell rfl (lv_agg (vs := [_, _, _]) TIs.out (hh.rd_blk_at (i := 0) (n := 3) rfl rfl) rfl) r_nil) ?_
    exact ⟨rfl, hh.below⟩
/-- Two to a power. -/
def twoD (n : Int) : Dyadic := Dyadic.ofIntWithPrec 1 (-n)
theorem owp_two (i p n : Int) : Dyadic.ofIntWithPrec i (p - n) = Dyadic.ofIntWithPrec i p * twoD n := by
  rw [twoD, owp_mul, Int.mul_one]; rfl
theorem dShift_calls (a : NR) (n : Int) (w : World) (hT : Tab w) (ha : a.mag.size ≤ 100000000) (h1 : -100000000000 ≤ a.e) (h2 : a.e ≤ 100000000000) (h3 : -100000000000 ≤ n) (h4 : n ≤ 100000000000) :
    Calls Tryz.prog 14 #[.agg #[.bool a.neg, .string a.mag, .int .i64 a.e], .int .i64 n] w fun r w' => r = .returned (.agg #[.bool (nR (a.d * twoD n)).neg, .string (nR (a.d * twoD n)).mag, .int .i64 (nR (a.d * twoD n)).e]) ∧ Below w.heap.size w w' := by
  have hh := Hp.start w
  have e1 : Dyadic.ofIntWithPrec (iv a.neg a.mag) (-(a.e + n)) = a.d * twoD n := by
    rw [NR.d, NR.i, ← owp_two]; congr 1; omega
  have hc := fun w1 hT1 => dMake_calls a.neg a.mag (a.e + n) w1 hT1 ha (by omega) (by omega)
  rw [e1] at hc
  refine calls_vc (N := 12) (l := [.agg #[.bool a.neg, .string a.mag, .int .i64 a.e], .int .i64 n]) Tryz.func14 rfl rfl (by simp) ?_
  refine wc_seq ?_
  refine wc_region ?_
  refine wl_box hh (cs := [_, _, _]) rfl rfl (by decide) ?_
  intro b2 w2 hh
  refine wl_alloc hh TIs.out (by decide) ?_
  intro b4 w4 hh
  refine wl_end ?_
  refine wc_seq ?_
  refine wc_region ?_
  refine s_fieldAddr (off := 0) FIs.out rfl (by decide) ?_
  refine s_load (vs := [_, _]) TIs.out rfl (hh.rd_blk_at (i := 1) (n := 2) rfl rfl) rfl (by decide) ?_
  refine s_fieldAddr (off := 2) FIs.out rfl (by decide) ?_
  refine s_load1 TIs.out rfl (hh.cell_blk (i := 1) rfl rfl) (by decide) ?_
  refine s_move (ev_int rfl) (by decide) ?_
  refine s_addi rfl rfl (by omega) (by omega) (by decide) ?_
  -- at some 11 := Op.call { callee := Callee.value (Operand.func 54), args := #[Operand.tmp 6, Operand.tmp 1
  refine s_callf (hc _ (hT.hp hh)) FnIs.out rfl (by decide) ?_
  rintro e_ w11 ⟨rfl, hb_⟩
  refine ⟨_, rfl, ?_⟩
  replace hh := hh.ext hb_
  refine wl_store hh (i := 0) (vs := [_, _, _]) rfl rfl rfl rfl TIs.out rfl (by simp) rfl ?_
  intro ws hh
  replace hh : Hp _ (.blk _ _ [_, _, _] _ :: _) _ := hh
  refine wl_end ?_
  refine wc_ret ?_
  -- at ('end', 'ret')
  refine retc1 (by first | exact .inr rfl | exact .inl rfl) rfl (r_cell rfl (lv_agg (vs := [_, _, _]) TIs.out (hh.rd_blk_at (i := 0) (n := 3) rfl rfl) rfl) r_nil) ?_
  exact ⟨rfl, hh.below⟩
def sumD : List Dyadic → Dyadic := fun l => l.foldl (· + ·) 0
theorem sumD_snoc (l : List Dyadic) (x : Dyadic) : sumD (l ++ [x]) = sumD l + x := by simp [sumD]
theorem Sz.sum {k : Nat} {l : List Dyadic} (h : ∀ x ∈ l, Sz k x) : Sz (k + l.length) (sumD l) := by
  have : ∀ (n : Nat), n ≤ l.length → Sz (k + n) (sumD (l.take n)) := by
    intro n
    induction n with
    | zero => intro _; exact Sz.zero _
    | succ n ih =>
      intro hn
      obtain ⟨x, hx⟩ := get_of_lt (l := l) (k := n) (by omega)
      rw [take_snoc hx, sumD_snoc]
      exact (ih (by omega)).add ((h x (List.mem_of_getElem? hx)).mono (by omega))
  have h2 := this l.length (Nat.le_refl _)
  rwa [List.take_length] at h2
/-- The sum of two, as the program makes it. -/
theorem lvl_make_calls (a b : NR) (w : World) (hT : Tab w) (ha : a.ok) (hb : b.ok) :
    Calls Tryz.prog 54 #[.agg #[.bool (iN (intAt a.d (lvlP a.d b.d) + intAt b.d (lvlP a.d b.d))), .string (iM (intAt a.d (lvlP a.d b.d) + intAt b.d (lvlP a.d b.d)))], .int .i64 (-(lvlP a.d b.d))] w fun r w' => r = .returned (.agg #[.bool (nR (a.d + b.d)).neg, .string (nR (a.d + b.d)).mag, .int .i64 (nR (a.d + b.d)).e]) ∧ Below w.heap.size w w' := by
  obtain ⟨hs1, hs2, hP1, hP2⟩ := lvl_sizes ha hb
  rw [iM_size] at hs1 hs2
  have h3 := blen_add_int (intAt a.d (lvlP a.d b.d)) (intAt b.d (lvlP a.d b.d))
  have := dMake_calls (iN (intAt a.d (lvlP a.d b.d) + intAt b.d (lvlP a.d b.d))) (iM (intAt a.d (lvlP a.d b.d) + intAt b.d (lvlP a.d b.d))) (-(lvlP a.d b.d)) w hT (by rw [iM_size]; omega) (by omega) (by omega)
  rw [iv_of, Int.neg_neg, lvl_sum] at this
  exact this
theorem dAdd_calls (L : Option Addr) (n c : Nat) (l : List NR) (w : World) (hT : Tab w) (hS : Sl w L n 3 (recs NR.cells l)) (hl : ∀ a ∈ l, a.ok) (k : Nat) (hk : ∀ a ∈ l, Sz k a.d) (hkn : k + n ≤ 3999990) :
    Calls Tryz.prog 15 #[.slice L n c] w fun r w' => r = .returned (.agg #[.bool (nR (sumD (l.map NR.d))).neg, .string (nR (sumD (l.map NR.d))).mag, .int .i64 (nR (sumD (l.map NR.d))).e]) ∧ Below w.heap.size w w' := by
  have hln := hS.recLen NR.len (by omega)
  have hh := Hp.start w
  refine calls_vc (N := 27) (l := [.slice L n c]) Tryz.func15 rfl rfl (by simp) ?_
  refine wc_seq ?_
  refine wc_region ?_
  refine wl_alloc hh TIs.out (by decide) ?_
  intro b2 w2 hh
  refine wl_end ?_
  refine wc_seq ?_
  refine wc_region ?_
  refine wl_alloc hh TIs.out (by decide) ?_
  intro b3 w3 hh
  refine wl_end ?_
  refine wc_seq ?_
  refine wc_seq ?_
  refine wc_region ?_
  refine s_move (ev_sl rfl) (by decide) ?_
  refine s_len_sl UIs.out rfl (by decide) ?_
  refine s_move (ev_int rfl) (by decide) ?_
  refine wl_end ?_
  refine wc_block ?_
  -- at a loop
  refine wc_loop1 [5, 6, 9, 10, 11, 12, 13, 14, 15, 16, 17, 18, 19, 20, 21, 22, 23, 24, 25] 9
    (fun j w' => ∃ (i : Nat) (S : Dyadic), i ≤ n ∧ j = .int .i64 i ∧ S = sumD ((l.take i).map NR.d) ∧ Hp w [.blk b3 25 [.bool (nR S).neg, .string (nR S).mag, .int .i64 (nR S).e] (0, 0), .blk b2 25 [.bool false, .string (ByteArray.mk #[]), .int .i64 0] (0, 0)] w')
    (fun j _ => n - (intOf j).toNat) ?_ ?_
  · exact ⟨0, 0, Nat.zero_le _, rfl, rfl, hh⟩
  · clear hh
    rintro ρ' j w' ⟨i, S, hi, rfl, hS2, hh⟩
    -- 
    by_cases hlt : i < n
    · obtain ⟨x, hx⟩ := get_of_lt (l := l) (k := i) (by omega)
      obtain ⟨ad, rfl, hr⟩ := hS.at_ (by omega)
      have hxm := List.mem_of_getElem? hx
      have hS3 : sumD ((l.take (i + 1)).map NR.d) = S + x.d := by rw [take_snoc hx, List.map_append, List.map_singleton, sumD_snoc, hS2]
      have hSz : Sz (k + i) S := by
        rw [hS2]
        have := Sz.sum (k := k) (l := (l.take i).map NR.d) (fun y hy => by
          obtain ⟨a, ha, rfl⟩ := List.mem_map.1 hy
          exact hk a (List.mem_of_mem_take ha))
        rw [List.length_map, List.length_take, Nat.min_eq_left (by omega)] at this
        exact this
      have hSo := hSz.ok (by omega)
      have hlc := fun w1 hT1 => dlevel_calls (nR S) x w1 hT1 hSo (hl x hxm)
      have hmc := fun w1 hT1 => lvl_make_calls (nR S) x w1 hT1 hSo (hl x hxm)
      obtain ⟨hs1, hs2, _⟩ := lvl_sizes hSo (hl x hxm)
      rw [nR_d] at hlc hmc hs1 hs2
      have e1 : ([iR (intAt S (lvlP S x.d)), iR (intAt x.d (lvlP S x.d))].map IR.v).sum = intAt S (lvlP S x.d) + intAt x.d (lvlP S x.d) := by
        simp only [List.map_cons, List.map_nil, List.sum_cons, List.sum_nil, iR_v]; omega
      have hac : ∀ (A : Option Addr) (cc : Nat) (w1 : World), Sl w1 A 2 2 (recs IR.cells [iR (intAt S (lvlP S x.d)), iR (intAt x.d (lvlP S x.d))]) → Calls Tryz.prog 63 #[.slice A 2 cc] w1 fun e w' => e = .returned (.agg #[.bool (iN (intAt S (lvlP S x.d) + intAt x.d (lvlP S x.d))), .string (iM (intAt S (lvlP S x.d) + intAt x.d (lvlP S x.d)))]) ∧ Below w1.heap.size w1 w' := fun A cc w1 hsl => by
        have := wAdd_calls A 2 cc [iR (intAt S (lvlP S x.d)), iR (intAt x.d (lvlP S x.d))] w1 hsl (by omega) (by simp [iR]; omega)
        rw [e1] at this
        exact this
      -- 
      refine wc_seq ?_
      refine wc_region ?_
      first | refine s_lss_t rfl rfl (by omega) (by decide) ?_ | refine s_lss_f rfl rfl (by omega) (by decide) ?_ | refine s_lss_v rfl rfl (by decide) ?_
      refine wl_end ?_
      refine wc_seq ?_
      refine wc_cond_t rfl ?_
      refine wc_skip ?_
      refine k_then ?_
      refine wc_seq ?_
      refine wc_block ?_
      refine wc_seq ?_
      refine wc_region ?_
      refine s_indexSl (k := i) UIs.out TIs.size rfl rfl (by omega) (by omega) (by decide) ?_
      -- at some 12
      refine s_load (vs := [_, _, _]) TIs.out rfl (((hr.ext hh.below).recAt NR.len hx)) rfl (by decide) ?_
      refine wl_alloc hh TIs.out (by decide) ?_
      intro b5 w5 hh
      refine wl_store hh (i := 0) (vs := [_, _, _]) rfl rfl rfl rfl TIs.out rfl (by simp) rfl ?_
      intro ws hh
      replace hh : Hp _ (.blk _ _ [_, _, _] _ :: _) _ := hh
      refine wl_end ?_
      refine wc_seq ?_
      refine wc_region ?_
      refine s_load (vs := [_, _, _]) TIs.out rfl (hh.rd_blk_at (i := 1) (n := 3) rfl rfl) rfl (by decide) ?_
      refine s_load (vs := [_, _, _]) TIs.out rfl (hh.rd_blk_at (i := 0) (n := 3) rfl rfl) rfl (by decide) ?_
      -- at some 15 := Op.call { callee := Callee.value (Operand.func 61), args := #[Operand.tmp 13, Operand.tmp 
      refine s_callf (hlc _ (hT.hp hh)) FnIs.out rfl (by decide) ?_
      rintro e_ w15 ⟨rfl, hb_⟩
      refine ⟨_, rfl, ?_⟩
      replace hh := hh.ext hb_
      refine wl_alloc hh TIs.out (by decide) ?_
      intro b6 w6 hh
      refine wl_store hh (i := 0) (vs := [_, _, _, _, _]) rfl rfl rfl rfl TIs.out rfl (by simp) rfl ?_
      intro ws hh
      replace hh : Hp _ (.blk _ _ [_, _, _, _, _] _ :: _) _ := hh
      refine wl_end ?_
      -- at the drawn region 6
      refine wc_drawn 8 [[(6, none)], [(16, some 0)], [(6, none)], [(18, some 2)], [(17, some 1), (19, some 3)], [(20, some 4)], [(6, none)], [(22, some 6)]] [(7, 23), (6, 22), (5, 21), (4, 20), (3, 19), (2, 18), (1, 17), (0, 16)] hh mixed (by kernel_rfl) ?_
      refine dx_val (i := 0) (fun ρ1 w1 hj hR => x_fieldAddr (off := 1) FIs.out (show ρ1 6 = Value.pointer _ from hR.1)) ?_
      refine dx_val (i := 1) (fun ρ1 w1 hj hR => x_load (vs := [_, _]) TIs.out (show ρ1 16 = Value.pointer _ from hR.1) (hj.hp.rd_blk_at (i := 0) (n := 2) rfl rfl) rfl) ?_
      refine dx_val (i := 2) (fun ρ1 w1 hj hR => x_fieldAddr (off := 3) FIs.out (show ρ1 6 = Value.pointer _ from hR.1)) ?_
      refine dx_val (i := 3) (fun ρ1 w1 hj hR => x_load (vs := [_, _]) TIs.out (show ρ1 18 = Value.pointer _ from hR.1) (hj.hp.rd_blk_at (i := 0) (n := 2) rfl rfl) rfl) ?_
      refine dx_buildSlice (i := 4) (cs := [_, _, _, _]) UIs.out TIs.out (fun ρ1 w1 hj hR => (evp_cons (show ρ1 17 = Value.agg (List.toArray _) from hR.1) (evp_cons (show ρ1 19 = Value.agg (List.toArray _) from hR.2.1) evp_nil))) rfl rfl (by decide) (by decide) rfl ?_
      refine dx_gen (i := 5) (Is (.agg #[.bool (iN (intAt S (lvlP S x.d) + intAt x.d (lvlP S x.d))), .string (iM (intAt S (lvlP S x.d) + intAt x.d (lvlP S x.d)))])) Is.ext ?_ ?_
      · intro ρ1 w1 hj hR
        obtain ⟨A20, c20, h20, s20⟩ := hR.1
        exact og_enter rfl (run_callf FnIs.out (evs_cons h20 evs_nil)) (hac A20 c20 _ s20) (fun _ _ hq => ⟨_, hq.1, hq.2, rfl⟩)
      refine dx_val (i := 6) (fun ρ1 w1 hj hR => x_fieldAddr (off := 0) FIs.out (show ρ1 6 = Value.pointer _ from hR.1)) ?_
      refine dx_val (i := 7) (fun ρ1 w1 hj hR => x_load1 TIs.out (show ρ1 22 = Value.pointer _ from hR.1) (hj.hp.cell_blk (i := 0) rfl rfl)) ?_
      refine dx_nil ?_
      intro f W hJ hV
      have hb_6 := hJ.bl
      obtain ⟨v23, v22, v21, v20, v19, v18, v17, v16, _⟩ := hV
      simp only [updL]
      have e16 : f 0 = _ := v16
      rw [e16]
      have e17 : f 1 = _ := v17
      rw [e17]
      have e18 : f 2 = _ := v18
      rw [e18]
      have e19 : f 3 = _ := v19
      rw [e19]
      obtain ⟨A20, c20, e20, f20⟩ : Rows _ _ _ (f 4) W := v20
      rw [e20]
      have e21 : f 5 = _ := v21
      rw [e21]
      have e22 : f 6 = _ := v22
      rw [e22]
      have e23 : f 7 = _ := v23
      rw [e23]
      replace hh := hJ.hp
      clear e16 e17 e18 e19 e20 e21 e22 e23 hJ
      -- at some 24 := Op.call { callee := Callee.value (Operand.func 54), args := #[Operand.tmp 21, Operand.tmp 
      refine s_callf (hmc _ (hT.hp hh)) FnIs.out rfl (by decide) ?_
      rintro e_ w24 ⟨rfl, hb_⟩
      refine ⟨_, rfl, ?_⟩
      replace hh := hh.ext hb_
      refine wl_store hh (i := 2) (vs := [_, _, _]) rfl rfl rfl rfl TIs.out rfl (by simp) rfl ?_
      intro ws hh
      replace hh : Hp _ (_ :: _ :: .blk _ _ [_, _, _] _ :: _) _ := hh
      refine wl_nil ?_
      refine b_norm ?_
      refine k_then ?_
      refine wc_region ?_
      refine s_addi rfl rfl (by omega) (by omega) (by decide) ?_
      refine s_move (ev_int rfl) (by decide) ?_
      refine wl_nil ?_
      refine k_then ?_
      -- at ('round',)
      replace hh := hh.sub ((List.sublist_cons_self _ _).trans (List.sublist_cons_self _ _))
      refine ⟨⟨i + 1, _, by omega, rfl, hS3.symm, hh⟩, by show n - (i + 1) < n - i; omega, ?_⟩
      (repeat (first | exact agree_mask _ _ _ | refine agree_upd rfl ?_ | refine agree_mask2 rfl ?_))
    · refine wc_seq ?_
      refine wc_region ?_
      first | refine s_lss_t rfl rfl (by omega) (by decide) ?_ | refine s_lss_f rfl rfl (by omega) (by decide) ?_ | refine s_lss_v rfl rfl (by decide) ?_
      refine wl_end ?_
      refine wc_seq ?_
      refine wc_cond_f rfl ?_
      refine wc_exit ?_
      refine k_exit ?_
      refine k_exit ?_
      refine b_here ?_
      refine k_then ?_
      refine wc_seq ?_
      refine wc_region ?_
      refine s_load (vs := [_, _, _]) TIs.out rfl (hh.rd_blk_at (i := 0) (n := 3) rfl rfl) rfl (by decide) ?_
      refine wl_store hh (i := 1) (vs := [_, _, _]) rfl rfl rfl rfl TIs.out rfl (by simp) rfl ?_
      intro ws hh
      replace hh : Hp _ (_ :: .blk _ _ [_, _, _] _ :: _) _ := hh
      refine wl_end ?_
      refine wc_ret ?_
      -- at ('end', 'ret')
      refine retc1 (by first | exact .inr rfl | exact .inl rfl) rfl (r_cell rfl (lv_agg (vs := [_, _, _]) TIs.out (hh.rd_blk_at (i := 1) (n := 3) rfl rfl) rfl) r_nil) ?_
      rw [List.take_of_length_le (by omega)] at hS2
      rw [hS2]
      exact ⟨rfl, hh.below⟩
theorem sumD_two (x y : Dyadic) : sumD [x, y] = x + y := by
  show (0 + x) + y = x + y
  rw [Dyadic.zero_add]
theorem dSub_calls (a b : NR) (w : World) (hT : Tab w) (ha : a.ok) (hb : b.ok) (k : Nat) (hka : Sz k a.d) (hkb : Sz k b.d) (hk : k ≤ 3999980) :
    Calls Tryz.prog 57 #[.agg #[.bool a.neg, .string a.mag, .int .i64 a.e], .agg #[.bool b.neg, .string b.mag, .int .i64 b.e]] w fun r w' => r = .returned (.agg #[.bool (nR (a.d - b.d)).neg, .string (nR (a.d - b.d)).mag, .int .i64 (nR (a.d - b.d)).e]) ∧ Below w.heap.size w w' := by
  have hh := Hp.start w
  obtain ⟨hb1, hb2, hb3⟩ := hb
  have e1 : sumD ([a, nR (-b.d)].map NR.d) = a.d - b.d := by
    simp only [List.map_cons, List.map_nil, nR_d, sumD_two]; rfl
  have hac : ∀ (A : Option Addr) (cc : Nat) (w1 : World), Tab w1 → Sl w1 A 2 3 (recs NR.cells [a, nR (-b.d)]) → Calls Tryz.prog 15 #[.slice A 2 cc] w1 fun r w' => r = .returned (.agg #[.bool (nR (a.d - b.d)).neg, .string (nR (a.d - b.d)).mag, .int .i64 (nR (a.d - b.d)).e]) ∧ Below w1.heap.size w1 w' := fun A cc w1 hT1 hsl => by
    have := dAdd_calls A 2 cc [a, nR (-b.d)] w1 hT1 hsl (by simpa using ⟨ha, hkb.neg.ok (by omega)⟩) k (by simpa [nR_d] using ⟨hka, hkb.neg⟩) (by omega)
    rw [e1] at this
    exact this
  refine calls_vc (N := 10) (l := [.agg #[.bool a.neg, .string a.mag, .int .i64 a.e], .agg #[.bool b.neg, .string b.mag, .int .i64 b.e]]) Tryz.func57 rfl rfl (by simp) ?_
  refine wc_seq ?_
  refine wc_region ?_
  refine wl_box hh (cs := [_, _, _]) rfl rfl (by decide) ?_
  intro b2 w2 hh
  refine wl_box hh (cs := [_, _, _]) rfl rfl (by decide) ?_
  intro b3 w3 hh
  refine wl_alloc hh TIs.out (by decide) ?_
  intro b4 w4 hh
  refine wl_end ?_
  refine wc_seq ?_
  -- at the drawn region 1
  refine wc_drawn 3 [[(2, none)], [(3, none)], [(6, some 1)]] [(2, 7), (1, 6), (0, 5)] hh mixed (by kernel_rfl) ?_
  refine dx_val (i := 0) (fun ρ1 w1 hj hR => x_load (vs := [_, _, _]) TIs.out (show ρ1 2 = Value.pointer _ from hR.1) (hj.hp.rd_blk_at (i := 2) (n := 3) rfl rfl) rfl) ?_
  refine dx_val (i := 1) (fun ρ1 w1 hj hR => x_load (vs := [_, _, _]) TIs.out (show ρ1 3 = Value.pointer _ from hR.1) (hj.hp.rd_blk_at (i := 1) (n := 3) rfl rfl) rfl) ?_
  refine dx_call (i := 2) (fun ρ1 w1 hj hR => run_callf FnIs.out (evs_cons (show ρ1 6 = Value.agg (List.toArray _) from hR.1) evs_nil)) (fun w1 hj => dNeg_calls b _ (hT.hp hj.hp) (by omega) (by omega) (by omega)) ?_
  refine dx_nil ?_
  intro f W hJ hV
  have hb_1 := hJ.bl
  obtain ⟨v7, v6, v5, _⟩ := hV
  simp only [updL]
  have e5 : f 0 = _ := v5
  rw [e5]
  have e6 : f 1 = _ := v6
  rw [e6]
  have e7 : f 2 = _ := v7
  rw [e7]
  replace hh := hJ.hp
  clear e5 e6 e7 hJ
  refine wl_buildSlice hh (cs := [_, _, _, _, _, _]) UIs.out TIs.out (evp_cons (ev_agg rfl) (evp_cons (ev_agg rfl) evp_nil)) rfl rfl (by decide) (by decide) (by decide) rfl (by decide) ?_
  intro b8 w8 hh
  -- at some 9 := Op.call { callee := Callee.value (Operand.func 15), args := #[Operand.tmp 8], argTypes := 
  refine s_callf (hac _ _ _ (hT.hp hh) (hh.sl_row (i := 0) rfl)) FnIs.out rfl (by decide) ?_
  rintro e_ w9 ⟨rfl, hb_⟩
  refine ⟨_, rfl, ?_⟩
  replace hh := hh.ext hb_
  refine wl_store hh (i := 1) (vs := [_, _, _]) rfl rfl rfl rfl TIs.out rfl (by simp) rfl ?_
  intro ws hh
  replace hh : Hp _ (_ :: .blk _ _ [_, _, _] _ :: _) _ := hh
  refine wl_end ?_
  refine wc_ret ?_
  -- at ('end', 'ret')
  refine retc1 (by first | exact .inr rfl | exact .inl rfl) rfl (r_cell rfl (lv_agg (vs := [_, _, _]) TIs.out (hh.rd_blk_at (i := 1) (n := 3) rfl rfl) rfl) r_nil) ?_
  exact ⟨rfl, hh.below⟩
/-- The product of a list. -/
def prodD : List Dyadic → Dyadic := fun l => l.foldl (· * ·) 1
theorem prodD_snoc (l : List Dyadic) (x : Dyadic) : prodD (l ++ [x]) = prodD l * x := by simp [prodD]
theorem one_d : ((1 : Int) : Dyadic) = 1 := rfl
theorem Sz.one : Sz 1 1 := ⟨2, by decide +kernel, by decide⟩
theorem Sz.prod {k : Nat} {l : List Dyadic} (h : ∀ x ∈ l, Sz k x) : Sz (1 + k * l.length) (prodD l) := by
  have : ∀ (n : Nat), n ≤ l.length → Sz (1 + k * n) (prodD (l.take n)) := by
    intro n
    induction n with
    | zero => intro _; exact Sz.one
    | succ n ih =>
      intro hn
      obtain ⟨x, hx⟩ := get_of_lt (l := l) (k := n) (by omega)
      rw [take_snoc hx, prodD_snoc]
      exact ((ih (by omega)).mul (h x (List.mem_of_getElem? hx))).mono (by rw [Nat.mul_succ]; omega)
  have h2 := this l.length (Nat.le_refl _)
  rwa [List.take_length] at h2
theorem dMul_calls (L : Option Addr) (n c : Nat) (l : List NR) (w : World) (hT : Tab w) (hS : Sl w L n 3 (recs NR.cells l)) (hl : ∀ a ∈ l, a.ok) (k : Nat) (hk : ∀ a ∈ l, Sz k a.d) (hkn : k * n ≤ 3999980) (hn : n ≤ 1000000) :
    Calls Tryz.prog 18 #[.slice L n c] w fun r w' => r = .returned (.agg #[.bool (nR (prodD (l.map NR.d))).neg, .string (nR (prodD (l.map NR.d))).mag, .int .i64 (nR (prodD (l.map NR.d))).e]) ∧ Below w.heap.size w w' := by
  have hln := hS.recLen NR.len (by omega)
  have hh := Hp.start w
  refine calls_vc (N := 27) (l := [.slice L n c]) Tryz.func18 rfl rfl (by simp) ?_
  refine wc_seq ?_
  refine wc_region ?_
  refine wl_alloc hh TIs.out (by decide) ?_
  intro b2 w2 hh
  refine wl_end ?_
  refine wc_seq ?_
  refine wc_region ?_
  -- at some 6 := Op.call { callee := Callee.value (Operand.func 52), args := #[Operand.const (Value.int Int
  refine s_callf (dOf_calls 1 _ (hT.hp hh) (by omega) (by omega)) FnIs.out rfl (by decide) ?_
  rintro e_ w6 ⟨rfl, hb_⟩
  refine ⟨_, rfl, ?_⟩
  replace hh := hh.ext hb_
  refine wl_alloc hh TIs.out (by decide) ?_
  intro b3 w3 hh
  refine wl_store hh (i := 0) (vs := [_, _, _]) rfl rfl rfl rfl TIs.out rfl (by simp) rfl ?_
  intro ws hh
  replace hh : Hp _ (.blk _ _ [_, _, _] _ :: _) _ := hh
  refine wl_end ?_
  refine wc_seq ?_
  refine wc_seq ?_
  refine wc_region ?_
  refine s_move (ev_sl rfl) (by decide) ?_
  refine s_len_sl UIs.out rfl (by decide) ?_
  refine s_move (ev_int rfl) (by decide) ?_
  refine wl_end ?_
  refine wc_block ?_
  -- at a loop
  refine wc_loop1 [5, 9, 10, 11, 12, 13, 14, 15, 16, 17, 18, 19, 20, 21, 22, 23, 24, 25] 9
    (fun j w' => ∃ (i : Nat) (S : Dyadic), i ≤ n ∧ j = .int .i64 i ∧ S = prodD ((l.take i).map NR.d) ∧ Hp w [.blk b3 25 [.bool (nR S).neg, .string (nR S).mag, .int .i64 (nR S).e] (0, 0), .blk b2 25 [.bool false, .string (ByteArray.mk #[]), .int .i64 0] (0, 0)] w')
    (fun j _ => n - (intOf j).toNat) ?_ ?_
  · exact ⟨0, _, Nat.zero_le _, rfl, rfl, hh⟩
  · clear hh
    rintro ρ' j w' ⟨i, S, hi, rfl, hS2, hh⟩
    -- 
    by_cases hlt : i < n
    · obtain ⟨x, hx⟩ := get_of_lt (l := l) (k := i) (by omega)
      obtain ⟨ad, rfl, hr⟩ := hS.at_ (by omega)
      have hxm := List.mem_of_getElem? hx
      have hS3 : prodD ((l.take (i + 1)).map NR.d) = S * x.d := by rw [take_snoc hx, List.map_append, List.map_singleton, prodD_snoc, hS2]
      have hSz : Sz (1 + k * i) S := by
        rw [hS2]
        have := Sz.prod (k := k) (l := (l.take i).map NR.d) (fun y hy => by
          obtain ⟨a, ha, rfl⟩ := List.mem_map.1 hy
          exact hk a (List.mem_of_mem_take ha))
        rw [List.length_map, List.length_take, Nat.min_eq_left (by omega)] at this
        exact this
      have hki : k * i ≤ k * n := Nat.mul_le_mul_left _ hi
      obtain ⟨so1, so2, so3⟩ := hSz.ok (by omega)
      obtain ⟨xo1, xo2, xo3⟩ := hl x hxm
      have e1 : prodI ([IR.mk (nR S).neg (nR S).mag, IR.mk x.neg x.mag].map IR.v) = (nR S).i * x.i := by
        simp only [List.map_cons, List.map_nil, prodI, Int.mul_one]; rfl
      have e2 : Dyadic.ofIntWithPrec ((nR S).i * x.i) (-((nR S).e + x.e)) = S * x.d := by
        have := owp_mul (nR S).i x.i (-(nR S).e) (-x.e)
        rw [Int.neg_add, ← this]
        congr 1
        exact nR_d S
      have hac : ∀ (A : Option Addr) (cc : Nat) (w1 : World), Sl w1 A 2 2 (recs IR.cells [IR.mk (nR S).neg (nR S).mag, IR.mk x.neg x.mag]) → Calls Tryz.prog 67 #[.slice A 2 cc] w1 fun e w' => e = .returned (.agg #[.bool (iN ((nR S).i * x.i)), .string (iM ((nR S).i * x.i))]) ∧ Below w1.heap.size w1 w' := fun A cc w1 hsl => by
        have := wMul_calls A 2 cc [IR.mk (nR S).neg (nR S).mag, IR.mk x.neg x.mag] w1 hsl (by omega) (by simp; omega)
        rw [e1] at this
        exact this
      have hmc : ∀ w1, Tab w1 → Calls Tryz.prog 54 #[.agg #[.bool (iN ((nR S).i * x.i)), .string (iM ((nR S).i * x.i))], .int .i64 ((nR S).e + x.e)] w1 fun r w' => r = .returned (.agg #[.bool (nR (S * x.d)).neg, .string (nR (S * x.d)).mag, .int .i64 (nR (S * x.d)).e]) ∧ Below w1.heap.size w1 w' := fun w1 hT1 => by
        have hb1 := blen_iv (nR S).neg (nR S).mag
        have hb2 := blen_iv x.neg x.mag
        have hb3 := blen_mul_int (nR S).i x.i
        have := dMake_calls (iN ((nR S).i * x.i)) (iM ((nR S).i * x.i)) ((nR S).e + x.e) w1 hT1 (by rw [iM_size]; unfold NR.i at hb3 ⊢; omega) (by omega) (by omega)
        rw [iv_of, e2] at this
        exact this
      -- 
      refine wc_seq ?_
      refine wc_region ?_
      first | refine s_lss_t rfl rfl (by omega) (by decide) ?_ | refine s_lss_f rfl rfl (by omega) (by decide) ?_ | refine s_lss_v rfl rfl (by decide) ?_
      refine wl_end ?_
      refine wc_seq ?_
      refine wc_cond_t rfl ?_
      refine wc_skip ?_
      refine k_then ?_
      refine wc_seq ?_
      refine wc_block ?_
      refine wc_seq ?_
      refine wc_region ?_
      refine s_indexSl (k := i) UIs.out TIs.size rfl rfl (by omega) (by omega) (by decide) ?_
      -- at some 12
      refine s_load (vs := [_, _, _]) TIs.out rfl (((hr.ext hh.below).recAt NR.len hx)) rfl (by decide) ?_
      refine wl_alloc hh TIs.out (by decide) ?_
      intro b5 w5 hh
      refine wl_store hh (i := 0) (vs := [_, _, _]) rfl rfl rfl rfl TIs.out rfl (by simp) rfl ?_
      intro ws hh
      replace hh : Hp _ (.blk _ _ [_, _, _] _ :: _) _ := hh
      refine wl_end ?_
      -- at the drawn region 5
      refine wc_drawn 11 [[(3, none)], [(13, some 0)], [(5, none)], [(15, some 2)], [(14, some 1), (16, some 3)], [(17, some 4)], [(3, none)], [(19, some 6)], [(5, none)], [(21, some 8)], [(20, some 7), (22, some 9)]] [(10, 23), (9, 22), (8, 21), (7, 20), (6, 19), (5, 18), (4, 17), (3, 16), (2, 15), (1, 14), (0, 13)] hh mixed (by kernel_rfl) ?_
      refine dx_val (i := 0) (fun ρ1 w1 hj hR => x_fieldAddr (off := 0) FIs.out (show ρ1 3 = Value.pointer _ from hR.1)) ?_
      refine dx_val (i := 1) (fun ρ1 w1 hj hR => x_load (vs := [_, _]) TIs.out (show ρ1 13 = Value.pointer _ from hR.1) (hj.hp.rd_blk_at (i := 1) (n := 2) rfl rfl) rfl) ?_
      refine dx_val (i := 2) (fun ρ1 w1 hj hR => x_fieldAddr (off := 0) FIs.out (show ρ1 5 = Value.pointer _ from hR.1)) ?_
      refine dx_val (i := 3) (fun ρ1 w1 hj hR => x_load (vs := [_, _]) TIs.out (show ρ1 15 = Value.pointer _ from hR.1) (hj.hp.rd_blk_at (i := 0) (n := 2) rfl rfl) rfl) ?_
      refine dx_buildSlice (i := 4) (cs := [_, _, _, _]) UIs.out TIs.out (fun ρ1 w1 hj hR => (evp_cons (show ρ1 14 = Value.agg (List.toArray _) from hR.1) (evp_cons (show ρ1 16 = Value.agg (List.toArray _) from hR.2.1) evp_nil))) rfl rfl (by decide) (by decide) rfl ?_
      refine dx_gen (i := 5) (Is (.agg #[.bool (iN ((nR S).i * x.i)), .string (iM ((nR S).i * x.i))])) Is.ext ?_ ?_
      · intro ρ1 w1 hj hR
        obtain ⟨A17, c17, h17, s17⟩ := hR.1
        exact og_enter rfl (run_callf FnIs.out (evs_cons h17 evs_nil)) (hac A17 c17 _ s17) (fun _ _ hq => ⟨_, hq.1, hq.2, rfl⟩)
      refine dx_val (i := 6) (fun ρ1 w1 hj hR => x_fieldAddr (off := 2) FIs.out (show ρ1 3 = Value.pointer _ from hR.1)) ?_
      refine dx_val (i := 7) (fun ρ1 w1 hj hR => x_load1 TIs.out (show ρ1 19 = Value.pointer _ from hR.1) (hj.hp.cell_blk (i := 1) rfl rfl)) ?_
      refine dx_val (i := 8) (fun ρ1 w1 hj hR => x_fieldAddr (off := 2) FIs.out (show ρ1 5 = Value.pointer _ from hR.1)) ?_
      refine dx_val (i := 9) (fun ρ1 w1 hj hR => x_load1 TIs.out (show ρ1 21 = Value.pointer _ from hR.1) (hj.hp.cell_blk (i := 0) rfl rfl)) ?_
      refine dx_val (i := 10) (fun ρ1 w1 hj hR => x_addi (show ρ1 20 = Value.int _ _ from hR.1) (show ρ1 22 = Value.int _ _ from hR.2.1) (by omega) (by omega)) ?_
      refine dx_nil ?_
      intro f W hJ hV
      have hb_5 := hJ.bl
      obtain ⟨v23, v22, v21, v20, v19, v18, v17, v16, v15, v14, v13, _⟩ := hV
      simp only [updL]
      have e13 : f 0 = _ := v13
      rw [e13]
      have e14 : f 1 = _ := v14
      rw [e14]
      have e15 : f 2 = _ := v15
      rw [e15]
      have e16 : f 3 = _ := v16
      rw [e16]
      obtain ⟨A17, c17, e17, f17⟩ : Rows _ _ _ (f 4) W := v17
      rw [e17]
      have e18 : f 5 = _ := v18
      rw [e18]
      have e19 : f 6 = _ := v19
      rw [e19]
      have e20 : f 7 = _ := v20
      rw [e20]
      have e21 : f 8 = _ := v21
      rw [e21]
      have e22 : f 9 = _ := v22
      rw [e22]
      have e23 : f 10 = _ := v23
      rw [e23]
      replace hh := hJ.hp
      clear e13 e14 e15 e16 e17 e18 e19 e20 e21 e22 e23 hJ
      -- at some 24 := Op.call { callee := Callee.value (Operand.func 54), args := #[Operand.tmp 18, Operand.tmp 
      refine s_callf (hmc _ (hT.hp hh)) FnIs.out rfl (by decide) ?_
      rintro e_ w24 ⟨rfl, hb_⟩
      refine ⟨_, rfl, ?_⟩
      replace hh := hh.ext hb_
      refine wl_store hh (i := 1) (vs := [_, _, _]) rfl rfl rfl rfl TIs.out rfl (by simp) rfl ?_
      intro ws hh
      replace hh : Hp _ (_ :: .blk _ _ [_, _, _] _ :: _) _ := hh
      refine wl_nil ?_
      refine b_norm ?_
      refine k_then ?_
      refine wc_region ?_
      refine s_addi rfl rfl (by omega) (by omega) (by decide) ?_
      refine s_move (ev_int rfl) (by decide) ?_
      refine wl_nil ?_
      refine k_then ?_
      -- at ('round',)
      replace hh := hh.sub (List.sublist_cons_self _ _)
      refine ⟨⟨i + 1, _, by omega, rfl, hS3.symm, hh⟩, by show n - (i + 1) < n - i; omega, ?_⟩
      (repeat (first | exact agree_mask _ _ _ | refine agree_upd rfl ?_ | refine agree_mask2 rfl ?_))
    · refine wc_seq ?_
      refine wc_region ?_
      first | refine s_lss_t rfl rfl (by omega) (by decide) ?_ | refine s_lss_f rfl rfl (by omega) (by decide) ?_ | refine s_lss_v rfl rfl (by decide) ?_
      refine wl_end ?_
      refine wc_seq ?_
      refine wc_cond_f rfl ?_
      refine wc_exit ?_
      refine k_exit ?_
      refine k_exit ?_
      refine b_here ?_
      refine k_then ?_
      refine wc_seq ?_
      refine wc_region ?_
      refine s_load (vs := [_, _, _]) TIs.out rfl (hh.rd_blk_at (i := 0) (n := 3) rfl rfl) rfl (by decide) ?_
      refine wl_store hh (i := 1) (vs := [_, _, _]) rfl rfl rfl rfl TIs.out rfl (by simp) rfl ?_
      intro ws hh
      replace hh : Hp _ (_ :: .blk _ _ [_, _, _] _ :: _) _ := hh
      refine wl_end ?_
      refine wc_ret ?_
      -- at ('end', 'ret')
      refine retc1 (by first | exact .inr rfl | exact .inl rfl) rfl (r_cell rfl (lv_agg (vs := [_, _, _]) TIs.out (hh.rd_blk_at (i := 1) (n := 3) rfl rfl) rfl) r_nil) ?_
      rw [List.take_of_length_le (by omega)] at hS2
      rw [hS2]
      exact ⟨rfl, hh.below⟩
end Go.Proofs.YthmmofllajkejaaGreatDoor
