/- The walks through the program's dyadic numbers (dyad): powers, rounding, the least and the greatest. -/
import Derived.Test.YthmmofllajkejaaGreatDoorDyadB
namespace Go.Proofs.YthmmofllajkejaaGreatDoor
open Go.RowKit
-- umode
theorem owp_pow (i p : Int) (n : Nat) : Dyadic.ofIntWithPrec i p ^ n = Dyadic.ofIntWithPrec (i ^ n) (p * n) := by
  induction n with
  | zero => rw [Dyadic.pow_zero]; simp; rfl
  | succ n ih => rw [Dyadic.pow_succ, ih, owp_mul, Int.pow_succ, Int.natCast_add, Int.mul_add]; simp
theorem nR_bd (i p : Int) : (nR (Dyadic.ofIntWithPrec i p)).mag.size ≤ (blen i.natAbs + 7) / 8 ∧ (i = 0 ∨ -p ≤ (nR (Dyadic.ofIntWithPrec i p)).e ∧ (nR (Dyadic.ofIntWithPrec i p)).e ≤ -p + blen i.natAbs) ∧ (i = 0 → (nR (Dyadic.ofIntWithPrec i p)).e = 0) := by
  by_cases h0 : i = 0
  · subst h0
    rw [owp_zero, nR_zero]
    exact ⟨Nat.zero_le _, .inl rfl, fun _ => rfl⟩
  · have h2 := two_pow_le_of_tz h0
    rw [owp_odd h0, nR]
    simp only
    refine ⟨?_, .inr ⟨by omega, ?_⟩, fun h => absurd h h0⟩
    · rw [iM_size]
      have : blen (i >>> i.trailingZeros).natAbs ≤ blen i.natAbs := by
        apply blen_le
        refine Nat.lt_of_le_of_lt ?_ (lt_blen _)
        rw [Int.shiftRight_eq_div_pow]
        exact Int.natAbs_ediv_le_natAbs _ _
      omega
    · have h3 : 2 ^ i.trailingZeros < 2 ^ blen i.natAbs := Nat.lt_of_le_of_lt h2 (lt_blen _)
      have := (Nat.pow_lt_pow_iff_right (by omega)).1 h3
      omega
theorem dPow_calls (a : NR) (n : Int) (w : World) (hT : Tab w) (ha : a.ok) (hs : n.toNat * a.mag.size ≤ 1000000) (hn : n ≤ 1000) :
    Calls Tryz.prog 60 #[.agg #[.bool a.neg, .string a.mag, .int .i64 a.e], .int .i64 n] w fun r w' => r = .returned (.agg #[.bool (nR (a.d ^ n.toNat)).neg, .string (nR (a.d ^ n.toNat)).mag, .int .i64 (nR (a.d ^ n.toNat)).e]) ∧ Below w.heap.size w w' := by
  have hh := Hp.start w
  obtain ⟨ha1, ha2, ha3⟩ := ha
  obtain ⟨_, fa1, fa2, fa3⟩ := raw_form (a := a) ⟨ha1, ha2, ha3⟩
  have hsz : (nR a.d).mag.size ≤ a.mag.size := by
    have := (nR_bd a.i (-a.e)).1
    have h2 := blen_iv a.neg a.mag
    unfold NR.d NR.i at *
    omega
  have hms : n.toNat * (nR a.d).mag.size ≤ n.toNat * a.mag.size := Nat.mul_le_mul_left _ hsz
  have e1 : (if (0 : Int) > n then 0 else n) = (n.toNat : Int) := by split <;> omega
  have hm : n.toNat ≤ 1000 := by omega
  have hlo : -18000000 * 1000 ≤ (nR a.d).e * (n.toNat : Int) := by
    have h1 : (-18000000 : Int) * n.toNat ≤ (nR a.d).e * n.toNat := Int.mul_le_mul_of_nonneg_right fa2 (by omega)
    omega
  have hhi : (nR a.d).e * (n.toNat : Int) ≤ 18000000 * 1000 := by
    have h1 : (nR a.d).e * n.toNat ≤ (18000000 : Int) * n.toNat := Int.mul_le_mul_of_nonneg_right fa3 (by omega)
    omega
  have hpc := fun w1 => wPow_calls (nR a.d).neg (nR a.d).mag n w1 (by omega) (by omega) (by omega)
  have hmc : ∀ w1, Tab w1 → Calls Tryz.prog 54 #[.agg #[.bool (iN (iv (nR a.d).neg (nR a.d).mag ^ n.toNat)), .string (iM (iv (nR a.d).neg (nR a.d).mag ^ n.toNat))], .int .i64 ((nR a.d).e * (n.toNat : Int))] w1 fun r w' => r = .returned (.agg #[.bool (nR (a.d ^ n.toNat)).neg, .string (nR (a.d ^ n.toNat)).mag, .int .i64 (nR (a.d ^ n.toNat)).e]) ∧ Below w1.heap.size w1 w' := fun w1 hT1 => by
    have hb := blen_pow_int (iv (nR a.d).neg (nR a.d).mag) n.toNat
    have hb2 := blen_iv (nR a.d).neg (nR a.d).mag
    have hb3 : n.toNat * blen (iv (nR a.d).neg (nR a.d).mag).natAbs ≤ n.toNat * (8 * (nR a.d).mag.size) := Nat.mul_le_mul_left _ hb2
    rw [Nat.mul_left_comm] at hb3
    have := dMake_calls (iN (iv (nR a.d).neg (nR a.d).mag ^ n.toNat)) (iM (iv (nR a.d).neg (nR a.d).mag ^ n.toNat)) ((nR a.d).e * (n.toNat : Int)) w1 hT1 (by rw [iM_size]; omega) (by omega) (by omega)
    have e2 : Dyadic.ofIntWithPrec (iv (nR a.d).neg (nR a.d).mag ^ n.toNat) (-((nR a.d).e * (n.toNat : Int))) = a.d ^ n.toNat := by
      have h3 := nR_d a.d
      conv => rhs; rw [← h3, NR.d, owp_pow]
      rw [Int.neg_mul]; rfl
    rw [iv_of, e2] at this
    exact this
  refine calls_vc (N := 17) (l := [.agg #[.bool a.neg, .string a.mag, .int .i64 a.e], .int .i64 n]) Tryz.func60 rfl rfl (by simp) ?_
  refine wc_seq ?_
  refine wc_region ?_
  refine wl_box hh (cs := [_, _, _]) rfl rfl (by decide) ?_
  intro b2 w2 hh
  refine wl_alloc hh TIs.out (by decide) ?_
  intro b4 w4 hh
  refine wl_end ?_
  refine wc_seq ?_
  refine wc_region ?_
  refine s_load (vs := [_, _, _]) TIs.out rfl (hh.rd_blk_at (i := 1) (n := 3) rfl rfl) rfl (by decide) ?_
  -- at some 6 := Op.call { callee := Callee.value (Operand.func 20), args := #[Operand.tmp 5], argTypes := 
  refine s_callf (dForm_calls a _ (hT.hp hh) (by omega) (by omega) (by omega)) FnIs.out rfl (by decide) ?_
  rintro e_ w6 ⟨rfl, hb_⟩
  refine ⟨_, rfl, ?_⟩
  replace hh := hh.ext hb_
  refine wl_store hh (i := 1) (vs := [_, _, _]) rfl rfl rfl rfl TIs.out rfl (by simp) rfl ?_
  intro ws hh
  replace hh : Hp _ (_ :: .blk _ _ [_, _, _] _ :: _) _ := hh
  refine wl_end ?_
  refine wc_seq ?_
  -- at the drawn region 2
  refine wc_drawn 9 [[(2, none)], [(7, some 0)], [(1, none)], [(8, some 1), (9, some 2)], [(2, none)], [(11, some 4)], [(1, none)], [(13, some 6)], [(12, some 5), (14, some 7)]] [(8, 15), (7, 14), (6, 13), (5, 12), (4, 11), (3, 10), (2, 9), (1, 8), (0, 7)] hh mixed (by kernel_rfl) ?_
  refine dx_val (i := 0) (fun ρ1 w1 hj hR => x_fieldAddr (off := 0) FIs.out (show ρ1 2 = Value.pointer _ from hR.1)) ?_
  refine dx_val (i := 1) (fun ρ1 w1 hj hR => x_load (vs := [_, _]) TIs.out (show ρ1 7 = Value.pointer _ from hR.1) (hj.hp.rd_blk_at (i := 1) (n := 2) rfl rfl) rfl) ?_
  refine dx_val (i := 2) (fun ρ1 w1 hj hR => x_move (show ρ1 1 = Value.int _ _ from hR.1)) ?_
  refine dx_call (i := 3) (fun ρ1 w1 hj hR => run_callf FnIs.out (evs_cons (show ρ1 8 = Value.agg (List.toArray _) from hR.1) (evs_cons (show ρ1 9 = Value.int _ _ from hR.2.1) evs_nil))) (fun w1 hj => hpc _) ?_
  refine dx_val (i := 4) (fun ρ1 w1 hj hR => x_fieldAddr (off := 2) FIs.out (show ρ1 2 = Value.pointer _ from hR.1)) ?_
  refine dx_val (i := 5) (fun ρ1 w1 hj hR => x_load1 TIs.out (show ρ1 11 = Value.pointer _ from hR.1) (hj.hp.cell_blk (i := 1) rfl rfl)) ?_
  refine dx_val (i := 6) (fun ρ1 w1 hj hR => x_move (show ρ1 1 = Value.int _ _ from hR.1)) ?_
  refine dx_gen (i := 7) (Is (.int .i64 (n.toNat : Int))) (Is.ext) ?_ ?_
  · intro ρ1 w1 hj hR
    exact og_val rfl ((x_max (ρ := ρ1) (x := .tmp 13) (show ρ1 13 = Value.int .i64 n from hR.1) rfl).trans (by rw [e1])) ⟨Below.refl _ _, rfl⟩
  refine dx_val (i := 8) (fun ρ1 w1 hj hR => x_muli (show ρ1 12 = Value.int _ _ from hR.1) (show ρ1 14 = Value.int _ _ from hR.2.1) (by omega) (by omega)) ?_
  refine dx_nil ?_
  intro f W hJ hV
  have hb_2 := hJ.bl
  obtain ⟨v15, v14, v13, v12, v11, v10, v9, v8, v7, _⟩ := hV
  simp only [updL]
  have e7 : f 0 = _ := v7
  rw [e7]
  have e8 : f 1 = _ := v8
  rw [e8]
  have e9 : f 2 = _ := v9
  rw [e9]
  have e10 : f 3 = _ := v10
  rw [e10]
  have e11 : f 4 = _ := v11
  rw [e11]
  have e12 : f 5 = _ := v12
  rw [e12]
  have e13 : f 6 = _ := v13
  rw [e13]
  have e14 : f 7 = _ := v14
  rw [e14]
  have e15 : f 8 = _ := v15
  rw [e15]
  replace hh := hJ.hp
  clear e7 e8 e9 e10 e11 e12 e13 e14 e15 hJ
  -- at some 16 := Op.call { callee := Callee.value (Operand.func 54), args := #[Operand.tmp 10, Operand.tmp 
  refine s_callf (hmc _ (hT.hp hh)) FnIs.out rfl (by decide) ?_
  rintro e_ w16 ⟨rfl, hb_⟩
  refine ⟨_, rfl, ?_⟩
  replace hh := hh.ext hb_
  refine wl_store hh (i := 0) (vs := [_, _, _]) rfl rfl rfl rfl TIs.out rfl (by simp) rfl ?_
  intro ws hh
  replace hh : Hp _ (.blk _ _ [_, _, _] _ :: _) _ := hh
  refine wl_end ?_
  refine wc_ret ?_
  -- at ('end', 'ret')
  refine retc1 (by first | exact .inr rfl | exact .inl rfl) rfl (r_cell rfl (lv_agg (vs := [_, _, _]) TIs.out (hh.rd_blk_at (i := 0) (n := 3) rfl rfl) rfl) r_nil) ?_
  exact ⟨rfl, hh.below⟩
theorem floor_keep {x : Dyadic} {p : Int} (h : -p ≤ (nR x).e) : x.roundDown p = x := by
  cases x with
  | zero => rfl
  | ofOdd n k hn =>
    simp only [nR] at h
    exact Dyadic.roundDown_eq_self_of_le (by simp [Dyadic.precision]; omega)
theorem floor_cut {x : Dyadic} {p : Int} (h : ¬ -p ≤ (nR x).e) : x.roundDown p = Dyadic.ofIntWithPrec (intAt x p) p := by
  cases x with
  | zero => rfl
  | ofOdd n k hn =>
    simp only [nR] at h
    obtain ⟨l, hl⟩ := Int.eq_ofNat_of_zero_le (show 0 ≤ k - p by omega)
    simp only [Dyadic.roundDown, intAt, shI]
    rw [hl, if_neg (by omega)]
    show Dyadic.ofIntWithPrec (n >>> l) p = _
    rw [Int.shiftRight_eq_div_pow, show -(p - k) = (l : Int) by omega, Int.toNat_natCast, Int.natCast_pow]
    rfl
theorem dFloor_calls (a : NR) (p : Int) (w : World) (hT : Tab w) (ha : a.ok) (h1 : -1000000 ≤ p) (h2 : p ≤ 1000000) :
    Calls Tryz.prog 58 #[.agg #[.bool a.neg, .string a.mag, .int .i64 a.e], .int .i64 p] w fun r w' => r = .returned (.agg #[.bool (nR (a.d.roundDown p)).neg, .string (nR (a.d.roundDown p)).mag, .int .i64 (nR (a.d.roundDown p)).e]) ∧ Below w.heap.size w w' := by
  have hh := Hp.start w
  obtain ⟨ha1, ha2, ha3⟩ := ha
  obtain ⟨_, fa1, fa2, fa3⟩ := raw_form (a := a) ⟨ha1, ha2, ha3⟩
  by_cases hk : -p ≤ (nR a.d).e
  · rw [floor_keep hk]
    refine calls_vc (N := 20) (l := [.agg #[.bool a.neg, .string a.mag, .int .i64 a.e], .int .i64 p]) Tryz.func58 rfl rfl (by simp) ?_
    refine wc_seq ?_
    refine wc_region ?_
    refine wl_box hh (cs := [_, _, _]) rfl rfl (by decide) ?_
    intro b2 w2 hh
    refine wl_alloc hh TIs.out (by decide) ?_
    intro b4 w4 hh
    refine wl_end ?_
    refine wc_seq ?_
    refine wc_region ?_
    refine s_load (vs := [_, _, _]) TIs.out rfl (hh.rd_blk_at (i := 1) (n := 3) rfl rfl) rfl (by decide) ?_
    -- at some 6 := Op.call { callee := Callee.value (Operand.func 20), args := #[Operand.tmp 5], argTypes := 
    refine s_callf (dForm_calls a _ (hT.hp hh) (by omega) (by omega) (by omega)) FnIs.out rfl (by decide) ?_
    rintro e_ w6 ⟨rfl, hb_⟩
    refine ⟨_, rfl, ?_⟩
    replace hh := hh.ext hb_
    refine wl_store hh (i := 1) (vs := [_, _, _]) rfl rfl rfl rfl TIs.out rfl (by simp) rfl ?_
    intro ws hh
    replace hh : Hp _ (_ :: .blk _ _ [_, _, _] _ :: _) _ := hh
    refine wl_end ?_
    refine wc_seq ?_
    refine wc_seq ?_
    refine wc_region ?_
    refine s_fieldAddr (off := 2) FIs.out rfl (by decide) ?_
    refine s_load1 TIs.out rfl (hh.cell_blk (i := 1) rfl rfl) (by decide) ?_
    refine s_move (ev_int rfl) (by decide) ?_
    refine s_negi rfl (by omega) (by omega) (by decide) ?_
    first | refine s_geq_t rfl rfl (by omega) (by decide) ?_ | refine s_geq_f rfl rfl (by omega) (by decide) ?_ | refine s_geq_v rfl rfl (by decide) ?_
    refine wl_end ?_
    refine wc_cond_t rfl ?_
    refine wc_seq ?_
    refine wc_region ?_
    refine s_load (vs := [_, _, _]) TIs.out rfl (hh.rd_blk_at (i := 1) (n := 3) rfl rfl) rfl (by decide) ?_
    refine wl_store hh (i := 0) (vs := [_, _, _]) rfl rfl rfl rfl TIs.out rfl (by simp) rfl ?_
    intro ws hh
    replace hh : Hp _ (.blk _ _ [_, _, _] _ :: _) _ := hh
    refine wl_end ?_
    refine wc_ret ?_
    refine k_ret ?_
    -- at ('end', 'ret')
    refine retc1 (by first | exact .inr rfl | exact .inl rfl) rfl (r_cell rfl (lv_agg (vs := [_, _, _]) TIs.out (hh.rd_blk_at (i := 0) (n := 3) rfl rfl) rfl) r_nil) ?_
    exact ⟨rfl, hh.below⟩
  · rw [floor_cut hk]
    have hb := intAt_blen a.d p
    have hcx := fun w1 hT1 => don_calls (-p) (nR a.d) w1 hT1 (by omega) (by omega) (by omega)
    rw [nR_i_shift] at hcx
    have hmc := fun w1 hT1 => dMake_calls (iN (intAt a.d p)) (iM (intAt a.d p)) (-p) w1 hT1 (by rw [iM_size]; omega) (by omega) (by omega)
    rw [iv_of, Int.neg_neg] at hmc
    refine calls_vc (N := 20) (l := [.agg #[.bool a.neg, .string a.mag, .int .i64 a.e], .int .i64 p]) Tryz.func58 rfl rfl (by simp) ?_
    refine wc_seq ?_
    refine wc_region ?_
    refine wl_box hh (cs := [_, _, _]) rfl rfl (by decide) ?_
    intro b2 w2 hh
    refine wl_alloc hh TIs.out (by decide) ?_
    intro b4 w4 hh
    refine wl_end ?_
    refine wc_seq ?_
    refine wc_region ?_
    refine s_load (vs := [_, _, _]) TIs.out rfl (hh.rd_blk_at (i := 1) (n := 3) rfl rfl) rfl (by decide) ?_
    -- at some 6 := Op.call { callee := Callee.value (Operand.func 20), args := #[Operand.tmp 5], argTypes := 
    refine s_callf (dForm_calls a _ (hT.hp hh) (by omega) (by omega) (by omega)) FnIs.out rfl (by decide) ?_
    rintro e_ w6 ⟨rfl, hb_⟩
    refine ⟨_, rfl, ?_⟩
    replace hh := hh.ext hb_
    refine wl_store hh (i := 1) (vs := [_, _, _]) rfl rfl rfl rfl TIs.out rfl (by simp) rfl ?_
    intro ws hh
    replace hh : Hp _ (_ :: .blk _ _ [_, _, _] _ :: _) _ := hh
    refine wl_end ?_
    refine wc_seq ?_
    refine wc_seq ?_
    refine wc_region ?_
    refine s_fieldAddr (off := 2) FIs.out rfl (by decide) ?_
    refine s_load1 TIs.out rfl (hh.cell_blk (i := 1) rfl rfl) (by decide) ?_
    refine s_move (ev_int rfl) (by decide) ?_
    refine s_negi rfl (by omega) (by omega) (by decide) ?_
    first | refine s_geq_t rfl rfl (by omega) (by decide) ?_ | refine s_geq_f rfl rfl (by omega) (by decide) ?_ | refine s_geq_v rfl rfl (by decide) ?_
    refine wl_end ?_
    refine wc_cond_f rfl ?_
    refine wc_skip ?_
    refine k_then ?_
    refine wc_seq ?_
    refine wc_region ?_
    refine s_move (ev_int rfl) (by decide) ?_
    refine s_negi rfl (by omega) (by omega) (by decide) ?_
    refine s_load (vs := [_, _, _]) TIs.out rfl (hh.rd_blk_at (i := 1) (n := 3) rfl rfl) rfl (by decide) ?_
    -- at some 16 := Op.call { callee := Callee.value (Operand.func 113), args := #[Operand.tmp 14, Operand.tmp
    refine s_callf (hcx _ (hT.hp hh)) FnIs.out rfl (by decide) ?_
    rintro e_ w16 ⟨rfl, hb_⟩
    refine ⟨_, rfl, ?_⟩
    replace hh := hh.ext hb_
    refine s_move (ev_int rfl) (by decide) ?_
    refine s_negi rfl (by omega) (by omega) (by decide) ?_
    -- at some 19 := Op.call { callee := Callee.value (Operand.func 54), args := #[Operand.tmp 16, Operand.tmp 
    refine s_callf (hmc _ (hT.hp hh)) FnIs.out rfl (by decide) ?_
    rintro e_ w19 ⟨rfl, hb_⟩
    refine ⟨_, rfl, ?_⟩
    replace hh := hh.ext hb_
    refine wl_store hh (i := 0) (vs := [_, _, _]) rfl rfl rfl rfl TIs.out rfl (by simp) rfl ?_
    intro ws hh
    replace hh : Hp _ (.blk _ _ [_, _, _] _ :: _) _ := hh
    refine wl_end ?_
    refine wc_ret ?_
    -- at ('end', 'ret')
    refine retc1 (by first | exact .inr rfl | exact .inl rfl) rfl (r_cell rfl (lv_agg (vs := [_, _, _]) TIs.out (hh.rd_blk_at (i := 0) (n := 3) rfl rfl) rfl) r_nil) ?_
    exact ⟨rfl, hh.below⟩
theorem floor_bd {a : NR} {p : Int} (ha : a.ok) (h1 : -1000000 ≤ p) (h2 : p ≤ 1000000) : (nR (a.d.roundDown p)).mag.size ≤ 2000000 ∧ -20000000 ≤ (nR (a.d.roundDown p)).e ∧ (nR (a.d.roundDown p)).e ≤ 20000000 := by
  obtain ⟨_, fa1, fa2, fa3⟩ := raw_form ha
  by_cases hk : -p ≤ (nR a.d).e
  · rw [floor_keep hk]
    exact ⟨by omega, by omega, by omega⟩
  · rw [floor_cut hk]
    have hb := intAt_blen a.d p
    obtain ⟨b1, b2, b3⟩ := nR_bd (intAt a.d p) p
    refine ⟨by omega, ?_, ?_⟩
    · rcases b2 with b2 | b2
      · rw [b3 b2]; omega
      · omega
    · rcases b2 with b2 | b2
      · rw [b3 b2]; omega
      · omega
theorem NR.ok_of {x : Dyadic} (h1 : (nR x).mag.size ≤ 1000000) (h2 : -10000000 ≤ (nR x).e) (h3 : (nR x).e ≤ 10000000) : (nR x).ok := ⟨h1, h2, h3⟩
theorem neg_bd (x : Dyadic) : (nR (-x)).mag = (nR x).mag ∧ (nR (-x)).e = (nR x).e := by
  cases x with
  | zero => exact ⟨rfl, rfl⟩
  | ofOdd n k h =>
    refine ⟨?_, rfl⟩
    show iM (-n) = iM n
    rw [iM, iM, Int.natAbs_neg]
theorem dCeil_calls (a : NR) (p : Int) (w : World) (hT : Tab w) (ha : a.ok) (ha' : (nR a.d).ok) (h1 : -1000000 ≤ p) (h2 : p ≤ 1000000) :
    Calls Tryz.prog 59 #[.agg #[.bool a.neg, .string a.mag, .int .i64 a.e], .int .i64 p] w fun r w' => r = .returned (.agg #[.bool (nR (-((-a.d).roundDown p))).neg, .string (nR (-((-a.d).roundDown p))).mag, .int .i64 (nR (-((-a.d).roundDown p))).e]) ∧ Below w.heap.size w w' := by
  have hh := Hp.start w
  obtain ⟨ha1, ha2, ha3⟩ := ha
  obtain ⟨n1, n2⟩ := neg_bd a.d
  have hno : (nR (-a.d)).ok := by unfold NR.ok; rw [n1, n2]; exact ha'
  have hfb := floor_bd hno h1 h2
  have hfc := fun w1 hT1 => dFloor_calls (nR (-a.d)) p w1 hT1 hno h1 h2
  rw [nR_d] at hfb hfc
  have hnc := fun w1 hT1 => dNeg_calls (nR ((-a.d).roundDown p)) w1 hT1 (by omega) (by omega) (by omega)
  rw [nR_d] at hnc
  refine calls_vc (N := 10) (l := [.agg #[.bool a.neg, .string a.mag, .int .i64 a.e], .int .i64 p]) Tryz.func59 rfl rfl (by simp) ?_
  refine wc_seq ?_
  refine wc_region ?_
  refine wl_box hh (cs := [_, _, _]) rfl rfl (by decide) ?_
  intro b2 w2 hh
  refine wl_alloc hh TIs.out (by decide) ?_
  intro b4 w4 hh
  refine wl_end ?_
  refine wc_seq ?_
  refine wc_region ?_
  refine s_load (vs := [_, _, _]) TIs.out rfl (hh.rd_blk_at (i := 1) (n := 3) rfl rfl) rfl (by decide) ?_
  -- at some 6 := Op.call { callee := Callee.value (Operand.func 69), args := #[Operand.tmp 5], argTypes := 
  refine s_callf (dNeg_calls a _ (hT.hp hh) (by omega) (by omega) (by omega)) FnIs.out rfl (by decide) ?_
  rintro e_ w6 ⟨rfl, hb_⟩
  refine ⟨_, rfl, ?_⟩
  replace hh := hh.ext hb_
  refine s_move (ev_int rfl) (by decide) ?_
  -- at some 8 := Op.call { callee := Callee.value (Operand.func 58), args := #[Operand.tmp 6, Operand.tmp 7
  refine s_callf (hfc _ (hT.hp hh)) FnIs.out rfl (by decide) ?_
  rintro e_ w8 ⟨rfl, hb_⟩
  refine ⟨_, rfl, ?_⟩
  replace hh := hh.ext hb_
  -- at some 9 := Op.call { callee := Callee.value (Operand.func 69), args := #[Operand.tmp 8], argTypes := 
  refine s_callf (hnc _ (hT.hp hh)) FnIs.out rfl (by decide) ?_
  rintro e_ w9 ⟨rfl, hb_⟩
  refine ⟨_, rfl, ?_⟩
  replace hh := hh.ext hb_
  refine wl_store hh (i := 0) (vs := [_, _, _]) rfl rfl rfl rfl TIs.out rfl (by simp) rfl ?_
  intro ws hh
  replace hh : Hp _ (.blk _ _ [_, _, _] _ :: _) _ := hh
  refine wl_end ?_
  refine wc_ret ?_
  -- at ('end', 'ret')
  refine retc1 (by first | exact .inr rfl | exact .inl rfl) rfl (r_cell rfl (lv_agg (vs := [_, _, _]) TIs.out (hh.rd_blk_at (i := 0) (n := 3) rfl rfl) rfl) r_nil) ?_
  exact ⟨rfl, hh.below⟩
/-- The one of all ahead of which, as they come, none is. -/
def bestD (f : Dyadic → Dyadic → Bool) : List Dyadic → Dyadic
  | [] => 0
  | a :: r => r.foldl (fun out a => if f a out then a else out) a
theorem bestD_snoc (f : Dyadic → Dyadic → Bool) {l : List Dyadic} (h : l ≠ []) (x : Dyadic) : bestD f (l ++ [x]) = if f x (bestD f l) then x else bestD f l := by
  cases l with
  | nil => exact absurd rfl h
  | cons a r =>
    show (r ++ [x]).foldl _ a = _
    rw [List.foldl_append]
    rfl
theorem dfirst_calls (L : Option Addr) (n c : Nat) (l : List NR) (g : FuncId) (f : Dyadic → Dyadic → Bool) (w : World) (hT : Tab w) (hS : Sl w L n 3 (recs NR.cells l)) (hl : ∀ a ∈ l, a.ok) (hn : n ≤ 1000000) [FnIs Tryz.prog g]
    (hg : ∀ (a b : NR) (w : World), Tab w → a.ok → b.ok → Calls Tryz.prog g #[.agg #[.bool a.neg, .string a.mag, .int .i64 a.e], .agg #[.bool b.neg, .string b.mag, .int .i64 b.e]] w fun r w' => r = .returned (.bool (f a.d b.d)) ∧ Below w.heap.size w w') :
    Calls Tryz.prog 64 #[.slice L n c, .func (.func g) #[] #[]] w fun r w' => r = .returned (.agg #[.bool (nR (bestD f (l.map NR.d))).neg, .string (nR (bestD f (l.map NR.d))).mag, .int .i64 (nR (bestD f (l.map NR.d))).e]) ∧ Below w.heap.size w w' := by
  have hln := hS.recLen NR.len (by omega)
  have hh := Hp.start w
  refine calls_vc (N := 27) (l := [.slice L n c, .func (.func g) #[] #[]]) Tryz.func64 rfl rfl (by simp) ?_
  refine wc_seq ?_
  refine wc_region ?_
  refine wl_alloc hh TIs.out (by decide) ?_
  intro b4 w4 hh
  refine wl_end ?_
  refine wc_seq ?_
  refine wc_region ?_
  refine wl_alloc hh TIs.out (by decide) ?_
  intro b5 w5 hh
  refine wl_end ?_
  refine wc_seq ?_
  refine wc_seq ?_
  refine wc_region ?_
  refine s_move (ev_sl rfl) (by decide) ?_
  refine s_len_sl UIs.out rfl (by decide) ?_
  refine s_move (ev_int rfl) (by decide) ?_
  refine wl_end ?_
  refine wc_block ?_
  -- at a loop
  refine wc_loop1 [6, 7, 10, 11, 12, 13, 14, 15, 16, 17, 18, 19, 20, 21, 22, 23, 24] 10
    (fun j w' => ∃ (i : Nat) (o : NR), i ≤ n ∧ j = .int .i64 i ∧ o.ok ∧ o.d = bestD f ((l.take i).map NR.d) ∧ Hp w [.blk b5 25 [.bool o.neg, .string o.mag, .int .i64 o.e] (0, 0), .blk b4 25 [.bool false, .string (ByteArray.mk #[]), .int .i64 0] (0, 0)] w')
    (fun j _ => n - (intOf j).toNat) ?_ ?_
  · exact ⟨0, nR 0, Nat.zero_le _, rfl, (Sz.zero 0).ok (by omega), rfl, hh⟩
  · clear hh
    rintro ρ' j w' ⟨i, o, hi, rfl, hok, hod, hh⟩
    -- 
    by_cases hlt : i < n
    · obtain ⟨x, hx⟩ := get_of_lt (l := l) (k := i) (by omega)
      obtain ⟨ad, rfl, hr⟩ := hS.at_ (by omega)
      have hxo := hl x (List.mem_of_getElem? hx)
      have htk : (l.take (i + 1)).map NR.d = (l.take i).map NR.d ++ [x.d] := by rw [take_snoc hx, List.map_append, List.map_singleton]
      -- 
      by_cases h0 : i = 0
      · subst h0
        refine wc_seq ?_
        refine wc_region ?_
        first | refine s_lss_t rfl rfl (by omega) (by decide) ?_ | refine s_lss_f rfl rfl (by omega) (by decide) ?_ | refine s_lss_v rfl rfl (by decide) ?_
        refine wl_end ?_
        refine wc_seq ?_
        refine wc_cond_t rfl ?_
        refine wc_skip ?_
        refine k_then ?_
        refine wc_seq ?_
        refine wc_block ?_
        refine wc_seq ?_
        refine wc_region ?_
        refine s_move (ev_int rfl) (by decide) ?_
        refine s_indexSl (k := 0) UIs.out TIs.size rfl rfl (by omega) (by omega) (by decide) ?_
        -- at some 14
        refine s_load (vs := [_, _, _]) TIs.out rfl (((hr.ext hh.below).recAt NR.len hx)) rfl (by decide) ?_
        refine wl_alloc hh TIs.out (by decide) ?_
        intro b7 w7 hh
        refine s_assign (ev_int rfl) (by decide) ?_
        refine wl_store hh (i := 0) (vs := [_, _, _]) rfl rfl rfl rfl TIs.out rfl (by simp) rfl ?_
        intro ws hh
        replace hh : Hp _ (.blk _ _ [_, _, _] _ :: _) _ := hh
        refine wl_end ?_
        refine wc_seq ?_
        refine wc_region ?_
        refine s_move (ev_int rfl) (by decide) ?_
        first | refine s_eql_t rfl rfl (by omega) (by decide) ?_ | refine s_eql_f rfl rfl (by omega) (by decide) ?_ | refine s_eql_v rfl rfl (by decide) ?_
        refine s_move (ev_bool rfl) (by decide) ?_
        first | (refine wl_guard_skip (by decide) rfl rfl (by decide) ?_) | (refine wl_guard_take rfl rfl ?_; (refine s_move (by first | exact ev_func rfl | exact ev_nilf rfl) (by decide) ?_)) | (refine wl_guard_skipV (by decide) rfl rfl ?_)
        first | (refine wl_guard_skip (by decide) rfl rfl (by decide) ?_) | (refine wl_guard_take rfl rfl ?_; (refine s_load (vs := [_, _, _]) TIs.out rfl (hh.rd_blk_at (i := 0) (n := 3) rfl rfl) rfl (by decide) ?_)) | (refine wl_guard_skipV (by decide) rfl rfl ?_)
        first | (refine wl_guard_skip (by decide) rfl rfl (by decide) ?_) | (refine wl_guard_take rfl rfl ?_; (refine s_load (vs := [_, _, _]) TIs.out rfl (hh.rd_blk_at (i := 1) (n := 3) rfl rfl) rfl (by decide) ?_)) | (refine wl_guard_skipV (by decide) rfl rfl ?_)
        refine wl_guard_skip (by decide) rfl rfl (by decide) ?_
        first | refine s_pick_t rfl (ev_bool rfl) (by decide) ?_ | refine s_pick_f rfl (ev_bool rfl) (by decide) ?_
        refine wl_end ?_
        refine wc_cond_t rfl ?_
        refine wc_region ?_
        refine s_load (vs := [_, _, _]) TIs.out rfl (hh.rd_blk_at (i := 0) (n := 3) rfl rfl) rfl (by decide) ?_
        refine wl_store hh (i := 1) (vs := [_, _, _]) rfl rfl rfl rfl TIs.out rfl (by simp) rfl ?_
        intro ws hh
        replace hh : Hp _ (_ :: .blk _ _ [_, _, _] _ :: _) _ := hh
        refine wl_nil ?_
        refine b_norm ?_
        refine k_then ?_
        refine wc_region ?_
        refine s_addi rfl rfl (by omega) (by omega) (by decide) ?_
        refine s_move (ev_int rfl) (by decide) ?_
        refine wl_nil ?_
        refine k_then ?_
        -- at ('round',)
        replace hh := hh.sub (List.sublist_cons_self _ _)
        refine ⟨⟨1, x, by omega, rfl, hxo, by rw [htk]; rfl, hh⟩, by show n - (0 + 1) < n - 0; omega, ?_⟩
        (repeat (first | exact agree_mask _ _ _ | refine agree_upd rfl ?_ | refine agree_mask2 rfl ?_))
      · have hne : (l.take i).map NR.d ≠ [] := by
          intro h
          have := congrArg List.length h
          rw [List.length_map, List.length_take, List.length_nil] at this
          omega
        have hb := bestD_snoc f hne x.d
        rw [← htk, ← hod] at hb
        refine wc_seq ?_
        refine wc_region ?_
        first | refine s_lss_t rfl rfl (by omega) (by decide) ?_ | refine s_lss_f rfl rfl (by omega) (by decide) ?_ | refine s_lss_v rfl rfl (by decide) ?_
        refine wl_end ?_
        refine wc_seq ?_
        refine wc_cond_t rfl ?_
        refine wc_skip ?_
        refine k_then ?_
        refine wc_seq ?_
        refine wc_block ?_
        refine wc_seq ?_
        refine wc_region ?_
        refine s_move (ev_int rfl) (by decide) ?_
        refine s_indexSl (k := i) UIs.out TIs.size rfl rfl (by omega) (by omega) (by decide) ?_
        -- at some 14
        refine s_load (vs := [_, _, _]) TIs.out rfl (((hr.ext hh.below).recAt NR.len hx)) rfl (by decide) ?_
        refine wl_alloc hh TIs.out (by decide) ?_
        intro b7 w7 hh
        refine s_assign (ev_int rfl) (by decide) ?_
        refine wl_store hh (i := 0) (vs := [_, _, _]) rfl rfl rfl rfl TIs.out rfl (by simp) rfl ?_
        intro ws hh
        replace hh : Hp _ (.blk _ _ [_, _, _] _ :: _) _ := hh
        refine wl_end ?_
        refine wc_seq ?_
        refine wc_region ?_
        refine s_move (ev_int rfl) (by decide) ?_
        first | refine s_eql_t rfl rfl (by omega) (by decide) ?_ | refine s_eql_f rfl rfl (by omega) (by decide) ?_ | refine s_eql_v rfl rfl (by decide) ?_
        refine s_move (ev_bool rfl) (by decide) ?_
        first | (refine wl_guard_skip (by decide) rfl rfl (by decide) ?_) | (refine wl_guard_take rfl rfl ?_; (refine s_move (by first | exact ev_func rfl | exact ev_nilf rfl) (by decide) ?_)) | (refine wl_guard_skipV (by decide) rfl rfl ?_)
        first | (refine wl_guard_skip (by decide) rfl rfl (by decide) ?_) | (refine wl_guard_take rfl rfl ?_; (refine s_load (vs := [_, _, _]) TIs.out rfl (hh.rd_blk_at (i := 0) (n := 3) rfl rfl) rfl (by decide) ?_)) | (refine wl_guard_skipV (by decide) rfl rfl ?_)
        first | (refine wl_guard_skip (by decide) rfl rfl (by decide) ?_) | (refine wl_guard_take rfl rfl ?_; (refine s_load (vs := [_, _, _]) TIs.out rfl (hh.rd_blk_at (i := 1) (n := 3) rfl rfl) rfl (by decide) ?_)) | (refine wl_guard_skipV (by decide) rfl rfl ?_)
        -- at guarded Op.call { callee := Callee.value (Operand.tmp 18), args := #[Operand.tmp 19, Ope
        refine wl_guard_take rfl rfl ?_
        refine s_callv (hg x o _ (hT.hp hh) hxo hok) FnIs.out rfl rfl (by decide) ?_
        rintro e_ w21 ⟨rfl, hb_⟩
        refine ⟨_, rfl, ?_⟩
        replace hh := hh.ext hb_
        cases hf : f x.d o.d with
        | true =>
          rw [hf, if_pos rfl] at hb
          first | refine s_pick_t rfl (ev_bool rfl) (by decide) ?_ | refine s_pick_f rfl (ev_bool rfl) (by decide) ?_
          refine wl_end ?_
          refine wc_cond_t rfl ?_
          refine wc_region ?_
          refine s_load (vs := [_, _, _]) TIs.out rfl (hh.rd_blk_at (i := 0) (n := 3) rfl rfl) rfl (by decide) ?_
          refine wl_store hh (i := 1) (vs := [_, _, _]) rfl rfl rfl rfl TIs.out rfl (by simp) rfl ?_
          intro ws hh
          replace hh : Hp _ (_ :: .blk _ _ [_, _, _] _ :: _) _ := hh
          refine wl_nil ?_
          refine b_norm ?_
          refine k_then ?_
          refine wc_region ?_
          refine s_addi rfl rfl (by omega) (by omega) (by decide) ?_
          refine s_move (ev_int rfl) (by decide) ?_
          refine wl_nil ?_
          refine k_then ?_
          -- at ('round',)
          replace hh := hh.sub (List.sublist_cons_self _ _)
          refine ⟨⟨i + 1, x, by omega, rfl, hxo, hb.symm, hh⟩, by show n - (i + 1) < n - i; omega, ?_⟩
          (repeat (first | exact agree_mask _ _ _ | refine agree_upd rfl ?_ | refine agree_mask2 rfl ?_))
        | false =>
          rw [hf] at hb
          first | refine s_pick_t rfl (ev_bool rfl) (by decide) ?_ | refine s_pick_f rfl (ev_bool rfl) (by decide) ?_
          refine wl_end ?_
          refine wc_cond_f rfl ?_
          refine wc_skip ?_
          refine b_norm ?_
          refine k_then ?_
          refine wc_region ?_
          refine s_addi rfl rfl (by omega) (by omega) (by decide) ?_
          refine s_move (ev_int rfl) (by decide) ?_
          refine wl_nil ?_
          refine k_then ?_
          -- at ('round',)
          replace hh := hh.sub (List.sublist_cons_self _ _)
          refine ⟨⟨i + 1, o, by omega, rfl, hok, hb.symm, hh⟩, by show n - (i + 1) < n - i; omega, ?_⟩
          (repeat (first | exact agree_mask _ _ _ | refine agree_upd rfl ?_ | refine agree_mask2 rfl ?_))
    · rw [List.take_of_length_le (by omega)] at hod
      obtain ⟨o1, o2, o3⟩ := hok
      refine wc_seq ?_
      refine wc_region ?_
      first | refine s_lss_t rfl rfl (by omega) (by decide) ?_ | refine s_lss_f rfl rfl (by omega) (by decide) ?_ | refine s_lss_v rfl rfl (by decide) ?_
      refine wl_end ?_
      refine wc_seq ?_
      refine wc_cond_f rfl ?_
      refine wc_exit ?_
      refine k_exit ?_
      refine k_exit ?_
      refine b_here ?_
      refine k_then ?_
      refine wc_seq ?_
      refine wc_region ?_
      refine s_load (vs := [_, _, _]) TIs.out rfl (hh.rd_blk_at (i := 0) (n := 3) rfl rfl) rfl (by decide) ?_
      -- at some 26 := Op.call { callee := Callee.value (Operand.func 20), args := #[Operand.tmp 25], argTypes :=
      refine s_callf (dForm_calls o _ (hT.hp hh) (by omega) (by omega) (by omega)) FnIs.out rfl (by decide) ?_
      rintro e_ w26 ⟨rfl, hb_⟩
      refine ⟨_, rfl, ?_⟩
      replace hh := hh.ext hb_
      rw [hod]
      refine wl_store hh (i := 1) (vs := [_, _, _]) rfl rfl rfl rfl TIs.out rfl (by simp) rfl ?_
      intro ws hh
      replace hh : Hp _ (_ :: .blk _ _ [_, _, _] _ :: _) _ := hh
      refine wl_end ?_
      refine wc_ret ?_
      -- at ('end', 'ret')
      refine retc1 (by first | exact .inr rfl | exact .inl rfl) rfl (r_cell rfl (lv_agg (vs := [_, _, _]) TIs.out (hh.rd_blk_at (i := 1) (n := 3) rfl rfl) rfl) r_nil) ?_
      exact ⟨rfl, hh.below⟩
theorem cmpD_lt (x y : Dyadic) : cmpD x y < 0 ↔ x < y := by
  unfold cmpD
  split
  · rename_i h; simp [h]
  · rename_i h; split <;> simp [h]
theorem cmpD_gt (x y : Dyadic) : 0 < cmpD x y ↔ y < x := by
  unfold cmpD
  split
  · rename_i h
    have : ¬ y < x := by grind
    simp [this]
  · split <;> rename_i h <;> simp [h]
theorem dMin1_calls (a b : NR) (w : World) (hT : Tab w) (ha : a.ok) (hb : b.ok) :
    Calls Tryz.prog 65 #[.agg #[.bool a.neg, .string a.mag, .int .i64 a.e], .agg #[.bool b.neg, .string b.mag, .int .i64 b.e]] w fun r w' => r = .returned (.bool (decide (a.d < b.d))) ∧ Below w.heap.size w w' := by
  have hh := Hp.start w
  have e1 : decide (cmpD a.d b.d < 0) = decide (a.d < b.d) := decide_eq_decide.2 (cmpD_lt _ _)
  refine calls_vc (N := 9) (l := [.agg #[.bool a.neg, .string a.mag, .int .i64 a.e], .agg #[.bool b.neg, .string b.mag, .int .i64 b.e]]) Tryz.func65 rfl rfl (by simp) ?_
  refine wc_seq ?_
  refine wc_region ?_
  refine wl_box hh (cs := [_, _, _]) rfl rfl (by decide) ?_
  intro b2 w2 hh
  refine wl_box hh (cs := [_, _, _]) rfl rfl (by decide) ?_
  intro b3 w3 hh
  refine s_assign (ev_bool rfl) (by decide) ?_
  refine wl_end ?_
  refine wc_seq ?_
  refine wc_region ?_
  refine s_load (vs := [_, _, _]) TIs.out rfl (hh.rd_blk_at (i := 1) (n := 3) rfl rfl) rfl (by decide) ?_
  refine s_load (vs := [_, _, _]) TIs.out rfl (hh.rd_blk_at (i := 0) (n := 3) rfl rfl) rfl (by decide) ?_
  -- at some 7 := Op.call { callee := Callee.value (Operand.func 13), args := #[Operand.tmp 5, Operand.tmp 6
  refine s_callf (dCmp_calls a b _ (hT.hp hh) ha hb) FnIs.out rfl (by decide) ?_
  rintro e_ w7 ⟨rfl, hb_⟩
  refine ⟨_, rfl, ?_⟩
  replace hh := hh.ext hb_
  first | refine s_lss_t rfl rfl (by omega) (by decide) ?_ | refine s_lss_f rfl rfl (by omega) (by decide) ?_ | refine s_lss_v rfl rfl (by decide) ?_
  refine s_assign (ev_bool rfl) (by decide) ?_
  refine wl_end ?_
  refine wc_ret ?_
  -- at ('end', 'ret')
  refine ret1 (by first | exact .inr rfl | exact .inl rfl) rfl (v_bool rfl) ?_
  rw [e1]
  exact ⟨rfl, hh.below⟩
theorem dMax1_calls (a b : NR) (w : World) (hT : Tab w) (ha : a.ok) (hb : b.ok) :
    Calls Tryz.prog 66 #[.agg #[.bool a.neg, .string a.mag, .int .i64 a.e], .agg #[.bool b.neg, .string b.mag, .int .i64 b.e]] w fun r w' => r = .returned (.bool (decide (b.d < a.d))) ∧ Below w.heap.size w w' := by
  have hh := Hp.start w
  have e1 : decide (0 < cmpD a.d b.d) = decide (b.d < a.d) := decide_eq_decide.2 (cmpD_gt _ _)
  refine calls_vc (N := 9) (l := [.agg #[.bool a.neg, .string a.mag, .int .i64 a.e], .agg #[.bool b.neg, .string b.mag, .int .i64 b.e]]) Tryz.func66 rfl rfl (by simp) ?_
  refine wc_seq ?_
  refine wc_region ?_
  refine wl_box hh (cs := [_, _, _]) rfl rfl (by decide) ?_
  intro b2 w2 hh
  refine wl_box hh (cs := [_, _, _]) rfl rfl (by decide) ?_
  intro b3 w3 hh
  refine s_assign (ev_bool rfl) (by decide) ?_
  refine wl_end ?_
  refine wc_seq ?_
  refine wc_region ?_
  refine s_load (vs := [_, _, _]) TIs.out rfl (hh.rd_blk_at (i := 1) (n := 3) rfl rfl) rfl (by decide) ?_
  refine s_load (vs := [_, _, _]) TIs.out rfl (hh.rd_blk_at (i := 0) (n := 3) rfl rfl) rfl (by decide) ?_
  -- at some 7 := Op.call { callee := Callee.value (Operand.func 13), args := #[Operand.tmp 5, Operand.tmp 6
  refine s_callf (dCmp_calls a b _ (hT.hp hh) ha hb) FnIs.out rfl (by decide) ?_
  rintro e_ w7 ⟨rfl, hb_⟩
  refine ⟨_, rfl, ?_⟩
  replace hh := hh.ext hb_
  first | refine s_gtr_t rfl rfl (by omega) (by decide) ?_ | refine s_gtr_f rfl rfl (by omega) (by decide) ?_ | refine s_gtr_v rfl rfl (by decide) ?_
  refine s_assign (ev_bool rfl) (by decide) ?_
  refine wl_end ?_
  refine wc_ret ?_
  -- at ('end', 'ret')
  refine ret1 (by first | exact .inr rfl | exact .inl rfl) rfl (v_bool rfl) ?_
  rw [e1]
  exact ⟨rfl, hh.below⟩
theorem dMin_calls (L : Option Addr) (n c : Nat) (l : List NR) (w : World) (hT : Tab w) (hS : Sl w L n 3 (recs NR.cells l)) (hl : ∀ a ∈ l, a.ok) (hn : n ≤ 1000000) :
    Calls Tryz.prog 16 #[.slice L n c] w fun r w' => r = .returned (.agg #[.bool (nR (bestD (fun x y => decide (x < y)) (l.map NR.d))).neg, .string (nR (bestD (fun x y => decide (x < y)) (l.map NR.d))).mag, .int .i64 (nR (bestD (fun x y => decide (x < y)) (l.map NR.d))).e]) ∧ Below w.heap.size w w' := by
  have hh := Hp.start w
  refine calls_vc (N := 5) (l := [.slice L n c]) Tryz.func16 rfl rfl (by simp) ?_
  refine wc_seq ?_
  refine wc_region ?_
  refine wl_alloc hh TIs.out (by decide) ?_
  intro b2 w2 hh
  refine wl_end ?_
  refine wc_seq ?_
  refine wc_region ?_
  refine s_move (ev_sl rfl) (by decide) ?_
  -- at some 4 := Op.call { callee := Callee.value (Operand.func 64), args := #[Operand.tmp 3, Operand.func 
  refine s_callf (dfirst_calls L n c l 65 (fun x y => decide (x < y)) _ (hT.hp hh) (hS.ext hh.below) hl hn dMin1_calls) FnIs.out rfl (by decide) ?_
  rintro e_ w4 ⟨rfl, hb_⟩
  refine ⟨_, rfl, ?_⟩
  replace hh := hh.ext hb_
  refine wl_store hh (i := 0) (vs := [_, _, _]) rfl rfl rfl rfl TIs.out rfl (by simp) rfl ?_
  intro ws hh
  replace hh : Hp _ (.blk _ _ [_, _, _] _ :: _) _ := hh
  refine wl_end ?_
  refine wc_ret ?_
  -- at ('end', 'ret')
  refine retc1 (by first | exact .inr rfl | exact .inl rfl) rfl (r_cell rfl (lv_agg (vs := [_, _, _]) TIs.out (hh.rd_blk_at (i := 0) (n := 3) rfl rfl) rfl) r_nil) ?_
  exact ⟨rfl, hh.below⟩
theorem dMax_calls (L : Option Addr) (n c : Nat) (l : List NR) (w : World) (hT : Tab w) (hS : Sl w L n 3 (recs NR.cells l)) (hl : ∀ a ∈ l, a.ok) (hn : n ≤ 1000000) :
    Calls Tryz.prog 17 #[.slice L n c] w fun r w' => r = .returned (.agg #[.bool (nR (bestD (fun x y => decide (y < x)) (l.map NR.d))).neg, .string (nR (bestD (fun x y => decide (y < x)) (l.map NR.d))).mag, .int .i64 (nR (bestD (fun x y => decide (y < x)) (l.map NR.d))).e]) ∧ Below w.heap.size w w' := by
  have hh := Hp.start w
  refine calls_vc (N := 5) (l := [.slice L n c]) Tryz.func17 rfl rfl (by simp) ?_
  refine wc_seq ?_
  refine wc_region ?_
  refine wl_alloc hh TIs.out (by decide) ?_
  intro b2 w2 hh
  refine wl_end ?_
  refine wc_seq ?_
  refine wc_region ?_
  refine s_move (ev_sl rfl) (by decide) ?_
  -- at some 4 := Op.call { callee := Callee.value (Operand.func 64), args := #[Operand.tmp 3, Operand.func 
  refine s_callf (dfirst_calls L n c l 66 (fun x y => decide (y < x)) _ (hT.hp hh) (hS.ext hh.below) hl hn dMax1_calls) FnIs.out rfl (by decide) ?_
  rintro e_ w4 ⟨rfl, hb_⟩
  refine ⟨_, rfl, ?_⟩
  replace hh := hh.ext hb_
  refine wl_store hh (i := 0) (vs := [_, _, _]) rfl rfl rfl rfl TIs.out rfl (by simp) rfl ?_
  intro ws hh
  replace hh : Hp _ (.blk _ _ [_, _, _] _ :: _) _ := hh
  refine wl_end ?_
  refine wc_ret ?_
  -- at ('end', 'ret')
  refine retc1 (by first | exact .inr rfl | exact .inl rfl) rfl (r_cell rfl (lv_agg (vs := [_, _, _]) TIs.out (hh.rd_blk_at (i := 0) (n := 3) rfl rfl) rfl) r_nil) ?_
  exact ⟨rfl, hh.below⟩
end Go.Proofs.YthmmofllajkejaaGreatDoor
