/- The walks through the program's whole numbers (whole): powers and shifts. -/
import Derived.Test.YthmmofllajkejaaGreatDoorWholeB
namespace Go.Proofs.YthmmofllajkejaaGreatDoor
open Go.RowKit
-- umode
theorem blen_pow_int (a : Int) (n : Nat) : blen (a ^ n).natAbs ≤ 1 + n * blen a.natAbs := by
  induction n with
  | zero => simp [blen_one]
  | succ n ih =>
    rw [Int.pow_succ]
    have := blen_mul_int (a ^ n) a
    rw [Nat.succ_mul]; omega
theorem wPow_calls (s : Bool) (a : ByteArray) (n : Int) (w : World) (h0 : n.toNat * a.size ≤ 100000000) (hn : n ≤ 1000000000) (ha : a.size ≤ 100000000) :
    Calls Tryz.prog 114 #[.agg #[.bool s, .string a], .int .i64 n] w fun e w' => e = .returned (.agg #[.bool (iN (iv s a ^ n.toNat)), .string (iM (iv s a ^ n.toNat))]) ∧ Below w.heap.size w w' := by
  have hh := Hp.start w
  have e1 : (if (0 : Int) > n then 0 else n) = (n.toNat : Int) := by split <;> omega
  have hm : n.toNat ≤ 1000000000 := by omega
  generalize n.toNat = m at *
  refine calls_vc (N := 19) (l := [.agg #[.bool s, .string a], .int .i64 n]) Tryz.func114 rfl rfl (by simp) ?_
  refine wc_seq ?_
  refine wc_region ?_
  refine wl_box hh (cs := [_, _]) rfl rfl (by decide) ?_
  intro b2 w2 hh
  refine wl_alloc hh TIs.out (by decide) ?_
  intro b4 w4 hh
  refine wl_end ?_
  refine wc_seq ?_
  refine wc_region ?_
  -- at some 6 := Op.call { callee := Callee.value (Operand.func 107), args := #[Operand.const (Value.int In
  refine s_callf (wOf_calls 1 _ (by omega) (by omega)) FnIs.out rfl (by decide) ?_
  rintro e_ w6 ⟨rfl, hb_⟩
  refine ⟨_, rfl, ?_⟩
  replace hh := hh.ext hb_
  -- at some 7 := Op.call { callee := Callee.value (Operand.func 117), args := #[Operand.tmp 6], argTypes :=
  refine s_callf (wof_calls _ _ _) FnIs.out rfl (by decide) ?_
  rintro e_ w7 ⟨rfl, hb_⟩
  refine ⟨_, rfl, ?_⟩
  replace hh := hh.ext hb_
  refine wl_alloc hh TIs.out (by decide) ?_
  intro b5 w5 hh
  refine wl_store hh (i := 0) (vs := [_, _]) rfl rfl rfl rfl TIs.out rfl (by simp) rfl ?_
  intro ws hh
  replace hh : Hp _ (.blk _ _ [_, _] _ :: _) _ := hh
  refine wl_end ?_
  refine wc_seq ?_
  refine wc_seq ?_
  refine wc_region ?_
  refine s_move (ev_int rfl) (by decide) ?_
  refine s_max rfl rfl (by decide) ?_
  refine s_move (ev_int rfl) (by decide) ?_
  refine wl_end ?_
  refine wc_block ?_
  -- at a loop
  rw [e1]
  refine wc_loop1 [10, 11, 12, 13, 14, 15, 16] 10
    (fun j w' => ∃ (i : Nat) (u : Bool) (S : Int), i ≤ m ∧ j = .int .i64 i ∧ S = iv s a ^ i ∧ iv u (iM S) = S ∧ Hp w [.blk b5 130 [.string (iM S), .bool u] (0, 0), .blk b4 23 [.bool false, .string (ByteArray.mk #[])] (0, 0), .blk b2 23 [.bool s, .string a] (0, 0)] w')
    (fun j _ => m - (intOf j).toNat) ?_ ?_
  · exact ⟨0, _, 1, Nat.zero_le _, rfl, by rw [Int.pow_zero], iv_of 1, hh⟩
  · clear hh
    rintro ρ' j w' ⟨i, u, S, hi, rfl, hS2, hu, hh⟩
    -- 
    by_cases hlt : i < m
    · have hb := blen_pow_int (iv s a) i
      rw [← hS2] at hb
      have hbx := blen_iv s a
      have hle : i * blen (iv s a).natAbs ≤ m * (8 * a.size) := Nat.mul_le_mul hi hbx
      rw [Nat.mul_left_comm] at hle
      have hms : (iM S).size ≤ 1000000000 := by rw [iM_size]; omega
      have hpl := iv_times u s (iM S) a
      rw [hu] at hpl
      have hwc := fun w1 => wtimes_calls u s (iM S) a w1 hms (by omega)
      rw [hu] at hwc
      refine wc_seq ?_
      refine wc_region ?_
      first | refine s_lss_t rfl rfl (by omega) (by decide) ?_ | refine s_lss_f rfl rfl (by omega) (by decide) ?_ | refine s_lss_v rfl rfl (by decide) ?_
      refine wl_end ?_
      refine wc_seq ?_
      refine wc_cond_t rfl ?_
      refine wc_skip ?_
      refine k_then ?_
      refine wc_seq ?_
      refine wc_block ?_
      -- at the drawn region 4
      refine wc_drawn 3 [[(5, none)], [(2, none)], [(13, some 1)]] [(2, 14), (1, 13), (0, 12)] hh mixed (by kernel_rfl) ?_
      refine dx_val (i := 0) (fun ρ1 w1 hj hR => x_load (vs := [_, _]) TIs.out (show ρ1 5 = Value.pointer _ from hR.1) (hj.hp.rd_blk_at (i := 0) (n := 2) rfl rfl) rfl) ?_
      refine dx_val (i := 1) (fun ρ1 w1 hj hR => x_load (vs := [_, _]) TIs.out (show ρ1 2 = Value.pointer _ from hR.1) (hj.hp.rd_blk_at (i := 2) (n := 2) rfl rfl) rfl) ?_
      refine dx_call (i := 2) (fun ρ1 w1 hj hR => run_callf FnIs.out (evs_cons (show ρ1 13 = Value.agg (List.toArray _) from hR.1) evs_nil)) (fun w1 hj => wof_calls s a _) ?_
      refine dx_nil ?_
      intro f W hJ hV
      have hb_4 := hJ.bl
      obtain ⟨v14, v13, v12, _⟩ := hV
      simp only [updL]
      have e12 : f 0 = _ := v12
      rw [e12]
      have e13 : f 1 = _ := v13
      rw [e13]
      have e14 : f 2 = _ := v14
      rw [e14]
      replace hh := hJ.hp
      clear e12 e13 e14 hJ
      -- at some 15 := Op.call { callee := Callee.value (Operand.func 119), args := #[Operand.tmp 12, Operand.tmp
      refine s_callf (hwc _) FnIs.out rfl (by decide) ?_
      rintro e_ w15 ⟨rfl, hb_⟩
      refine ⟨_, rfl, ?_⟩
      replace hh := hh.ext hb_
      refine wl_store hh (i := 0) (vs := [_, _]) rfl rfl rfl rfl TIs.out rfl (by simp) rfl ?_
      intro ws hh
      replace hh : Hp _ (.blk _ _ [_, _] _ :: _) _ := hh
      refine wl_nil ?_
      refine b_norm ?_
      refine k_then ?_
      refine wc_region ?_
      refine s_addi rfl rfl (by omega) (by omega) (by decide) ?_
      refine s_move (ev_int rfl) (by decide) ?_
      refine wl_nil ?_
      refine k_then ?_
      -- at ('round',)
      refine ⟨⟨i + 1, _, _, by omega, rfl, by rw [Int.pow_succ, hS2], hpl, hh⟩, by show m - (i + 1) < m - i; omega, ?_⟩
      (repeat (first | exact agree_mask _ _ _ | refine agree_upd rfl ?_ | refine agree_mask2 rfl ?_))
    · obtain rfl : i = m := by omega
      refine wc_seq ?_
      refine wc_region ?_
      first | refine s_lss_t rfl rfl (by omega) (by decide) ?_ | refine s_lss_f rfl rfl (by omega) (by decide) ?_ | refine s_lss_v rfl rfl (by decide) ?_
      refine wl_end ?_
      refine wc_seq ?_
      refine wc_cond_f rfl ?_
      refine wc_exit ?_
      refine k_exit ?_
      refine k_exit ?_
      refine b_here ?_
      refine k_then ?_
      refine wc_seq ?_
      refine wc_region ?_
      refine s_load (vs := [_, _]) TIs.out rfl (hh.rd_blk_at (i := 0) (n := 2) rfl rfl) rfl (by decide) ?_
      -- at some 18 := Op.call { callee := Callee.value (Operand.func 118), args := #[Operand.tmp 17], argTypes :
      refine s_callf (wmade_calls u (iM S) _) FnIs.out rfl (by decide) ?_
      rintro e_ w18 ⟨rfl, hb_⟩
      refine ⟨_, rfl, ?_⟩
      replace hh := hh.ext hb_
      rw [hu, hS2]
      refine wl_store hh (i := 1) (vs := [_, _]) rfl rfl rfl rfl TIs.out rfl (by simp) rfl ?_
      intro ws hh
      replace hh : Hp _ (_ :: .blk _ _ [_, _] _ :: _) _ := hh
      refine wl_end ?_
      refine wc_ret ?_
      -- at ('end', 'ret')
      refine retc1 (by first | exact .inr rfl | exact .inl rfl) rfl (r_cell rfl (lv_agg (vs := [_, _]) TIs.out (hh.rd_blk_at (i := 1) (n := 2) rfl rfl) rfl) r_nil) ?_
      exact ⟨rfl, hh.below⟩
theorem iv_shl (s : Bool) (a : ByteArray) (m : Nat) : iv s (sN (bN a * 2 ^ m)) = iv s a * 2 ^ m := by
  unfold iv
  rw [bN_sN]
  cases s <;> simp [Int.natCast_mul, Int.neg_mul]
theorem wShl_calls (s : Bool) (a : ByteArray) (m : Nat) (w : World) (ha : a.size ≤ 100000000) (hm : m ≤ 1000000000) :
    Calls Tryz.prog 110 #[.agg #[.bool s, .string a], .int .i64 (m : Int)] w fun e w' => e = .returned (.agg #[.bool (iN (iv s a * 2 ^ m)), .string (iM (iv s a * 2 ^ m))]) ∧ Below w.heap.size w w' := by
  have hh := Hp.start w
  refine calls_vc (N := 47) (l := [.agg #[.bool s, .string a], .int .i64 (m : Int)]) Tryz.func110 rfl rfl (by simp) ?_
  refine wc_seq ?_
  refine wc_region ?_
  refine wl_box hh (cs := [_, _]) rfl rfl (by decide) ?_
  intro b2 w2 hh
  refine wl_alloc hh TIs.out (by decide) ?_
  intro b4 w4 hh
  refine wl_end ?_
  refine wc_seq ?_
  refine wc_seq ?_
  refine wc_region ?_
  refine s_move (ev_int rfl) (by decide) ?_
  first | refine s_geq_t rfl rfl (by omega) (by decide) ?_ | refine s_geq_f rfl rfl (by omega) (by decide) ?_ | refine s_geq_v rfl rfl (by decide) ?_
  refine wl_end ?_
  refine wc_cond_t rfl ?_
  refine wc_seq ?_
  -- at the drawn region 2
  refine wc_drawn 6 [[(2, none)], [(8, some 0)], [(1, none)], [(9, some 1), (10, some 2)], [(2, none)], [(12, some 4)]] [(5, 13), (4, 12), (3, 11), (2, 10), (1, 9), (0, 8)] hh mixed (by kernel_rfl) ?_
  refine dx_val (i := 0) (fun ρ1 w1 hj hR => x_fieldAddr (off := 1) FIs.out (show ρ1 2 = Value.pointer _ from hR.1)) ?_
  refine dx_val (i := 1) (fun ρ1 w1 hj hR => x_load1 TIs.out (show ρ1 8 = Value.pointer _ from hR.1) (hj.hp.cell_blk (i := 1) rfl rfl)) ?_
  refine dx_val (i := 2) (fun ρ1 w1 hj hR => x_move (show ρ1 1 = Value.int _ _ from hR.1)) ?_
  refine dx_call (i := 3) (fun ρ1 w1 hj hR => run_callf FnIs.out (evs_cons (show ρ1 9 = Value.string _ from hR.1) (evs_cons (show ρ1 10 = Value.int _ _ from hR.2.1) evs_nil))) (fun w1 hj => natShl_calls a m _ (by omega) (by omega)) ?_
  refine dx_val (i := 4) (fun ρ1 w1 hj hR => x_fieldAddr (off := 0) FIs.out (show ρ1 2 = Value.pointer _ from hR.1)) ?_
  refine dx_val (i := 5) (fun ρ1 w1 hj hR => x_load1 TIs.out (show ρ1 12 = Value.pointer _ from hR.1) (hj.hp.cell_blk (i := 1) rfl rfl)) ?_
  refine dx_nil ?_
  intro f W hJ hV
  have hb_2 := hJ.bl
  obtain ⟨v13, v12, v11, v10, v9, v8, _⟩ := hV
  simp only [updL]
  have e8 : f 0 = _ := v8
  rw [e8]
  have e9 : f 1 = _ := v9
  rw [e9]
  have e10 : f 2 = _ := v10
  rw [e10]
  have e11 : f 3 = _ := v11
  rw [e11]
  have e12 : f 4 = _ := v12
  rw [e12]
  have e13 : f 5 = _ := v13
  rw [e13]
  replace hh := hJ.hp
  clear e8 e9 e10 e11 e12 e13 hJ
  refine s_build (cs := [_, _]) TIs.out PIs.out rfl rfl (by decide) ?_
  -- at some 15 := Op.call { callee := Callee.value (Operand.func 118), args := #[Operand.tmp 14], argTypes :
  refine s_callf (wmade_calls s (sN (bN a * 2 ^ m)) _) FnIs.out rfl (by decide) ?_
  rintro e_ w15 ⟨rfl, hb_⟩
  refine ⟨_, rfl, ?_⟩
  replace hh := hh.ext hb_
  rw [iv_shl]
  refine wl_store hh (i := 0) (vs := [_, _]) rfl rfl rfl rfl TIs.out rfl (by simp) rfl ?_
  intro ws hh
  replace hh : Hp _ (.blk _ _ [_, _] _ :: _) _ := hh
  refine wl_end ?_
  refine wc_ret ?_
  refine k_ret ?_
  -- at ('end', 'ret')
  refine retc1 (by first | exact .inr rfl | exact .inl rfl) rfl (r_cell rfl (lv_agg (vs := [_, _]) TIs.out (hh.rd_blk_at (i := 0) (n := 2) rfl rfl) rfl) r_nil) ?_
  exact ⟨rfl, hh.below⟩
theorem wShr_calls (s : Bool) (a : ByteArray) (m : Nat) (w : World) (hT : Tab w) (ha : a.size ≤ 100000000) (h0 : 0 < m) (hm : m ≤ 1000000000000) :
    Calls Tryz.prog 110 #[.agg #[.bool s, .string a], .int .i64 (-(m : Int))] w fun e w' => e = .returned (.agg #[.bool (iN (iv s a / 2 ^ m)), .string (iM (iv s a / 2 ^ m))]) ∧ Below w.heap.size w w' := by
  have hh := Hp.start w
  have e1 : (if (-1099511627776 : Int) > -(m : Int) then -1099511627776 else -(m : Int)) = -(m : Int) := if_neg (by omega)
  have e2 : -(-(m : Int)) = (m : Int) := by omega
  have hcs : ∀ w1, Calls Tryz.prog 141 #[.string a, .int .i64 (-(-(m : Int)))] w1 fun e w' => e = .returned (.string (sN (bN a / 2 ^ m))) ∧ Below w1.heap.size w1 w' := fun w1 => by
    rw [e2]; exact natShr_calls a m w1 (by omega) (by omega)
  cases s with
  | false =>
    have e3 : iv false (sN (bN a / 2 ^ m)) = iv false a / 2 ^ m := by
      unfold iv
      rw [bN_sN]
      simp
    refine calls_vc (N := 47) (l := [.agg #[.bool false, .string a], .int .i64 (-(m : Int))]) Tryz.func110 rfl rfl (by simp) ?_
    refine wc_seq ?_
    refine wc_region ?_
    refine wl_box hh (cs := [_, _]) rfl rfl (by decide) ?_
    intro b2 w2 hh
    refine wl_alloc hh TIs.out (by decide) ?_
    intro b4 w4 hh
    refine wl_end ?_
    refine wc_seq ?_
    refine wc_seq ?_
    refine wc_region ?_
    refine s_move (ev_int rfl) (by decide) ?_
    first | refine s_geq_t rfl rfl (by omega) (by decide) ?_ | refine s_geq_f rfl rfl (by omega) (by decide) ?_ | refine s_geq_v rfl rfl (by decide) ?_
    refine wl_end ?_
    refine wc_cond_f rfl ?_
    refine wc_skip ?_
    refine k_then ?_
    refine wc_seq ?_
    refine wc_region ?_
    refine s_move (ev_int rfl) (by decide) ?_
    refine s_max rfl rfl (by decide) ?_
    refine s_assign (ev_int rfl) (by decide) ?_
    refine wl_end ?_
    refine wc_seq ?_
    -- at the drawn region 4
    rw [e1]
    refine wc_drawn 10 [[(2, none)], [(18, some 0)], [(1, none)], [(20, some 2)], [(19, some 1), (21, some 3)], [(2, none)], [(23, some 5)], [(22, some 4), (24, some 6)], [(25, some 7)], []] [(9, 5), (8, 26), (7, 25), (6, 24), (5, 23), (4, 22), (3, 21), (2, 20), (1, 19), (0, 18)] hh mixed (by kernel_rfl) ?_
    refine dx_val (i := 0) (fun ρ1 w1 hj hR => x_fieldAddr (off := 1) FIs.out (show ρ1 2 = Value.pointer _ from hR.1)) ?_
    refine dx_val (i := 1) (fun ρ1 w1 hj hR => x_load1 TIs.out (show ρ1 18 = Value.pointer _ from hR.1) (hj.hp.cell_blk (i := 1) rfl rfl)) ?_
    refine dx_val (i := 2) (fun ρ1 w1 hj hR => x_move (show ρ1 1 = Value.int _ _ from hR.1)) ?_
    refine dx_val (i := 3) (fun ρ1 w1 hj hR => x_negi (show ρ1 20 = Value.int _ _ from hR.1) (by omega) (by omega)) ?_
    refine dx_call (i := 4) (fun ρ1 w1 hj hR => run_callf FnIs.out (evs_cons (show ρ1 19 = Value.string _ from hR.1) (evs_cons (show ρ1 21 = Value.int _ _ from hR.2.1) evs_nil))) (fun w1 hj => hcs _) ?_
    refine dx_val (i := 5) (fun ρ1 w1 hj hR => x_fieldAddr (off := 0) FIs.out (show ρ1 2 = Value.pointer _ from hR.1)) ?_
    refine dx_val (i := 6) (fun ρ1 w1 hj hR => x_load1 TIs.out (show ρ1 23 = Value.pointer _ from hR.1) (hj.hp.cell_blk (i := 1) rfl rfl)) ?_
    refine dx_val (i := 7) (fun ρ1 w1 hj hR => x_build (cs := [_, _]) TIs.out PIs.out (evp_cons (show ρ1 22 = Value.string _ from hR.1) (evp_cons (show ρ1 24 = Value.bool _ from hR.2.1) evp_nil)) rfl) ?_
    refine dx_call (i := 8) (fun ρ1 w1 hj hR => run_callf FnIs.out (evs_cons (show ρ1 25 = Value.agg (List.toArray _) from hR.1) evs_nil)) (fun w1 hj => wmade_calls false (sN (bN a / 2 ^ m)) _) ?_
    refine dx_gen (i := 9) (NewVar _ 23 _) NewVar.ext (fun ρ1 w1 hj hR => og_alloc TIs.out hj.bl (fun v w2 h hb => ⟨hb, h⟩)) ?_
    refine dx_nil ?_
    intro f W hJ hV
    have hb_4 := hJ.bl
    obtain ⟨v5, v26, v25, v24, v23, v22, v21, v20, v19, v18, _⟩ := hV
    simp only [updL]
    have e18 : f 0 = _ := v18
    rw [e18]
    have e19 : f 1 = _ := v19
    rw [e19]
    have e20 : f 2 = _ := v20
    rw [e20]
    have e21 : f 3 = _ := v21
    rw [e21]
    have e22 : f 4 = _ := v22
    rw [e22]
    have e23 : f 5 = _ := v23
    rw [e23]
    have e24 : f 6 = _ := v24
    rw [e24]
    have e25 : f 7 = _ := v25
    rw [e25]
    have e26 : f 8 = _ := v26
    rw [e26]
    obtain ⟨b5, e5, hl5, hc5⟩ : NewVar _ _ _ (f 9) W := v5
    rw [e5]
    replace hh := hJ.newVar hh hl5 hc5
    clear e18 e19 e20 e21 e22 e23 e24 e25 e26 e5 hJ
    rw [e3]
    refine wl_store hh (i := 0) (vs := [_, _]) rfl rfl rfl rfl TIs.out rfl (by simp) rfl ?_
    intro ws hh
    replace hh : Hp _ (.blk _ _ [_, _] _ :: _) _ := hh
    refine wl_end ?_
    refine wc_seq ?_
    refine wc_seq ?_
    refine wc_region ?_
    refine s_fieldAddr (off := 0) FIs.out rfl (by decide) ?_
    refine s_load1 TIs.out rfl (hh.cell_blk (i := 2) rfl rfl) (by decide) ?_
    refine s_move (ev_bool rfl) (by decide) ?_
    first | (refine wl_guard_skip (by decide) rfl rfl (by decide) ?_) | (refine wl_guard_take rfl rfl ?_; (refine s_fieldAddr (off := 1) FIs.out rfl (by decide) ?_)) | (refine wl_guard_skipV (by decide) rfl rfl ?_)
    first | (refine wl_guard_skip (by decide) rfl rfl (by decide) ?_) | (refine wl_guard_take rfl rfl ?_; (refine s_load1 TIs.out rfl (hh.cell_blk (i := 2) rfl rfl) (by decide) ?_)) | (refine wl_guard_skipV (by decide) rfl rfl ?_)
    refine wl_guard_skip (by decide) rfl rfl (by decide) ?_
    first | (refine wl_guard_skip (by decide) rfl rfl (by decide) ?_) | (refine wl_guard_take rfl rfl ?_; (first | refine s_gtr_t rfl rfl (by omega) (by decide) ?_ | refine s_gtr_f rfl rfl (by omega) (by decide) ?_ | refine s_gtr_v rfl rfl (by decide) ?_)) | (refine wl_guard_skipV (by decide) rfl rfl ?_)
    first | refine s_pick_t rfl (ev_bool rfl) (by decide) ?_ | refine s_pick_f rfl (ev_bool rfl) (by decide) ?_
    refine s_move (ev_bool rfl) (by decide) ?_
    first | (refine wl_guard_skip (by decide) rfl rfl (by decide) ?_) | (refine wl_guard_take rfl rfl ?_; (refine s_fieldAddr (off := 1) FIs.out rfl (by decide) ?_)) | (refine wl_guard_skipV (by decide) rfl rfl ?_)
    first | (refine wl_guard_skip (by decide) rfl rfl (by decide) ?_) | (refine wl_guard_take rfl rfl ?_; (refine s_load1 TIs.out rfl (hh.cell_blk (i := 2) rfl rfl) (by decide) ?_)) | (refine wl_guard_skipV (by decide) rfl rfl ?_)
    refine wl_guard_skip (by decide) rfl rfl (by decide) ?_
    first | (refine wl_guard_skip (by decide) rfl rfl (by decide) ?_) | (refine wl_guard_take rfl rfl ?_; (refine s_move (ev_int rfl) (by decide) ?_)) | (refine wl_guard_skipV (by decide) rfl rfl ?_)
    first | (refine wl_guard_skip (by decide) rfl rfl (by decide) ?_) | (refine wl_guard_take rfl rfl ?_; (refine s_negi rfl (by omega) (by omega) (by decide) ?_)) | (refine wl_guard_skipV (by decide) rfl rfl ?_)
    first | (refine wl_guard_skip (by decide) rfl rfl (by decide) ?_) | (refine wl_guard_take rfl rfl ?_; (first | refine s_lss_t rfl rfl (by omega) (by decide) ?_ | refine s_lss_f rfl rfl (by omega) (by decide) ?_ | refine s_lss_v rfl rfl (by decide) ?_)) | (refine wl_guard_skipV (by decide) rfl rfl ?_)
    first | refine s_pick_t rfl (ev_bool rfl) (by decide) ?_ | refine s_pick_f rfl (ev_bool rfl) (by decide) ?_
    refine wl_end ?_
    refine wc_cond_f rfl ?_
    refine wc_skip ?_
    refine k_then ?_
    refine wc_seq ?_
    refine wc_region ?_
    refine s_load (vs := [_, _]) TIs.out rfl (hh.rd_blk_at (i := 0) (n := 2) rfl rfl) rfl (by decide) ?_
    refine wl_store hh (i := 1) (vs := [_, _]) rfl rfl rfl rfl TIs.out rfl (by simp) rfl ?_
    intro ws hh
    replace hh : Hp _ (_ :: .blk _ _ [_, _] _ :: _) _ := hh
    refine wl_end ?_
    refine wc_ret ?_
    -- at ('end', 'ret')
    refine retc1 (by first | exact .inr rfl | exact .inl rfl) rfl (r_cell rfl (lv_agg (vs := [_, _]) TIs.out (hh.rd_blk_at (i := 1) (n := 2) rfl rfl) rfl) r_nil) ?_
    exact ⟨rfl, hh.below⟩
  | true =>
    have hb := bN_blen a
    have e4 : iv true (sN (bN a / 2 ^ m)) = -((bN a / 2 ^ m : Nat) : Int) := by
      unfold iv
      rw [bN_sN, if_pos rfl]
    have e5 : iv true a = -(bN a : Int) := by unfold iv; rw [if_pos rfl]
    by_cases hz : bN a = 0
    · have e3 : iv true (sN (bN a / 2 ^ m)) = iv true a / 2 ^ m := by
        rw [e4, e5, hz]; simp
      refine calls_vc (N := 47) (l := [.agg #[.bool true, .string a], .int .i64 (-(m : Int))]) Tryz.func110 rfl rfl (by simp) ?_
      refine wc_seq ?_
      refine wc_region ?_
      refine wl_box hh (cs := [_, _]) rfl rfl (by decide) ?_
      intro b2 w2 hh
      refine wl_alloc hh TIs.out (by decide) ?_
      intro b4 w4 hh
      refine wl_end ?_
      refine wc_seq ?_
      refine wc_seq ?_
      refine wc_region ?_
      refine s_move (ev_int rfl) (by decide) ?_
      first | refine s_geq_t rfl rfl (by omega) (by decide) ?_ | refine s_geq_f rfl rfl (by omega) (by decide) ?_ | refine s_geq_v rfl rfl (by decide) ?_
      refine wl_end ?_
      refine wc_cond_f rfl ?_
      refine wc_skip ?_
      refine k_then ?_
      refine wc_seq ?_
      refine wc_region ?_
      refine s_move (ev_int rfl) (by decide) ?_
      refine s_max rfl rfl (by decide) ?_
      refine s_assign (ev_int rfl) (by decide) ?_
      refine wl_end ?_
      refine wc_seq ?_
      -- at the drawn region 4
      rw [e1]
      refine wc_drawn 10 [[(2, none)], [(18, some 0)], [(1, none)], [(20, some 2)], [(19, some 1), (21, some 3)], [(2, none)], [(23, some 5)], [(22, some 4), (24, some 6)], [(25, some 7)], []] [(9, 5), (8, 26), (7, 25), (6, 24), (5, 23), (4, 22), (3, 21), (2, 20), (1, 19), (0, 18)] hh mixed (by kernel_rfl) ?_
      refine dx_val (i := 0) (fun ρ1 w1 hj hR => x_fieldAddr (off := 1) FIs.out (show ρ1 2 = Value.pointer _ from hR.1)) ?_
      refine dx_val (i := 1) (fun ρ1 w1 hj hR => x_load1 TIs.out (show ρ1 18 = Value.pointer _ from hR.1) (hj.hp.cell_blk (i := 1) rfl rfl)) ?_
      refine dx_val (i := 2) (fun ρ1 w1 hj hR => x_move (show ρ1 1 = Value.int _ _ from hR.1)) ?_
      refine dx_val (i := 3) (fun ρ1 w1 hj hR => x_negi (show ρ1 20 = Value.int _ _ from hR.1) (by omega) (by omega)) ?_
      refine dx_call (i := 4) (fun ρ1 w1 hj hR => run_callf FnIs.out (evs_cons (show ρ1 19 = Value.string _ from hR.1) (evs_cons (show ρ1 21 = Value.int _ _ from hR.2.1) evs_nil))) (fun w1 hj => hcs _) ?_
      refine dx_val (i := 5) (fun ρ1 w1 hj hR => x_fieldAddr (off := 0) FIs.out (show ρ1 2 = Value.pointer _ from hR.1)) ?_
      refine dx_val (i := 6) (fun ρ1 w1 hj hR => x_load1 TIs.out (show ρ1 23 = Value.pointer _ from hR.1) (hj.hp.cell_blk (i := 1) rfl rfl)) ?_
      refine dx_val (i := 7) (fun ρ1 w1 hj hR => x_build (cs := [_, _]) TIs.out PIs.out (evp_cons (show ρ1 22 = Value.string _ from hR.1) (evp_cons (show ρ1 24 = Value.bool _ from hR.2.1) evp_nil)) rfl) ?_
      refine dx_call (i := 8) (fun ρ1 w1 hj hR => run_callf FnIs.out (evs_cons (show ρ1 25 = Value.agg (List.toArray _) from hR.1) evs_nil)) (fun w1 hj => wmade_calls true (sN (bN a / 2 ^ m)) _) ?_
      refine dx_gen (i := 9) (NewVar _ 23 _) NewVar.ext (fun ρ1 w1 hj hR => og_alloc TIs.out hj.bl (fun v w2 h hb => ⟨hb, h⟩)) ?_
      refine dx_nil ?_
      intro f W hJ hV
      have hb_4 := hJ.bl
      obtain ⟨v5, v26, v25, v24, v23, v22, v21, v20, v19, v18, _⟩ := hV
      simp only [updL]
      have e18 : f 0 = _ := v18
      rw [e18]
      have e19 : f 1 = _ := v19
      rw [e19]
      have e20 : f 2 = _ := v20
      rw [e20]
      have e21 : f 3 = _ := v21
      rw [e21]
      have e22 : f 4 = _ := v22
      rw [e22]
      have e23 : f 5 = _ := v23
      rw [e23]
      have e24 : f 6 = _ := v24
      rw [e24]
      have e25 : f 7 = _ := v25
      rw [e25]
      have e26 : f 8 = _ := v26
      rw [e26]
      obtain ⟨b5, e5, hl5, hc5⟩ : NewVar _ _ _ (f 9) W := v5
      rw [e5]
      replace hh := hJ.newVar hh hl5 hc5
      clear e18 e19 e20 e21 e22 e23 e24 e25 e26 e5 hJ
      rw [e3]
      refine wl_store hh (i := 0) (vs := [_, _]) rfl rfl rfl rfl TIs.out rfl (by simp) rfl ?_
      intro ws hh
      replace hh : Hp _ (.blk _ _ [_, _] _ :: _) _ := hh
      refine wl_end ?_
      refine wc_seq ?_
      refine wc_seq ?_
      refine wc_region ?_
      refine s_fieldAddr (off := 0) FIs.out rfl (by decide) ?_
      refine s_load1 TIs.out rfl (hh.cell_blk (i := 2) rfl rfl) (by decide) ?_
      refine s_move (ev_bool rfl) (by decide) ?_
      first | (refine wl_guard_skip (by decide) rfl rfl (by decide) ?_) | (refine wl_guard_take rfl rfl ?_; (refine s_fieldAddr (off := 1) FIs.out rfl (by decide) ?_)) | (refine wl_guard_skipV (by decide) rfl rfl ?_)
      first | (refine wl_guard_skip (by decide) rfl rfl (by decide) ?_) | (refine wl_guard_take rfl rfl ?_; (refine s_load1 TIs.out rfl (hh.cell_blk (i := 2) rfl rfl) (by decide) ?_)) | (refine wl_guard_skipV (by decide) rfl rfl ?_)
      -- at guarded Op.call { callee := Callee.value (Operand.func 142), args := #[Operand.tmp 31], 
      refine wl_guard_take rfl rfl ?_
      refine s_callf (natLen_calls a _ (by omega)) FnIs.out rfl (by decide) ?_
      rintro e_ w32 ⟨rfl, hb_⟩
      refine ⟨_, rfl, ?_⟩
      replace hh := hh.ext hb_
      rw [hz, blen_zero]
      first | (refine wl_guard_skip (by decide) rfl rfl (by decide) ?_) | (refine wl_guard_take rfl rfl ?_; (first | refine s_gtr_t rfl rfl (by omega) (by decide) ?_ | refine s_gtr_f rfl rfl (by omega) (by decide) ?_ | refine s_gtr_v rfl rfl (by decide) ?_)) | (refine wl_guard_skipV (by decide) rfl rfl ?_)
      first | refine s_pick_t rfl (ev_bool rfl) (by decide) ?_ | refine s_pick_f rfl (ev_bool rfl) (by decide) ?_
      refine s_move (ev_bool rfl) (by decide) ?_
      first | (refine wl_guard_skip (by decide) rfl rfl (by decide) ?_) | (refine wl_guard_take rfl rfl ?_; (refine s_fieldAddr (off := 1) FIs.out rfl (by decide) ?_)) | (refine wl_guard_skipV (by decide) rfl rfl ?_)
      first | (refine wl_guard_skip (by decide) rfl rfl (by decide) ?_) | (refine wl_guard_take rfl rfl ?_; (refine s_load1 TIs.out rfl (hh.cell_blk (i := 2) rfl rfl) (by decide) ?_)) | (refine wl_guard_skipV (by decide) rfl rfl ?_)
      refine wl_guard_skip (by decide) rfl rfl (by decide) ?_
      first | (refine wl_guard_skip (by decide) rfl rfl (by decide) ?_) | (refine wl_guard_take rfl rfl ?_; (refine s_move (ev_int rfl) (by decide) ?_)) | (refine wl_guard_skipV (by decide) rfl rfl ?_)
      first | (refine wl_guard_skip (by decide) rfl rfl (by decide) ?_) | (refine wl_guard_take rfl rfl ?_; (refine s_negi rfl (by omega) (by omega) (by decide) ?_)) | (refine wl_guard_skipV (by decide) rfl rfl ?_)
      first | (refine wl_guard_skip (by decide) rfl rfl (by decide) ?_) | (refine wl_guard_take rfl rfl ?_; (first | refine s_lss_t rfl rfl (by omega) (by decide) ?_ | refine s_lss_f rfl rfl (by omega) (by decide) ?_ | refine s_lss_v rfl rfl (by decide) ?_)) | (refine wl_guard_skipV (by decide) rfl rfl ?_)
      first | refine s_pick_t rfl (ev_bool rfl) (by decide) ?_ | refine s_pick_f rfl (ev_bool rfl) (by decide) ?_
      refine wl_end ?_
      refine wc_cond_f rfl ?_
      refine wc_skip ?_
      refine k_then ?_
      refine wc_seq ?_
      refine wc_region ?_
      refine s_load (vs := [_, _]) TIs.out rfl (hh.rd_blk_at (i := 0) (n := 2) rfl rfl) rfl (by decide) ?_
      refine wl_store hh (i := 1) (vs := [_, _]) rfl rfl rfl rfl TIs.out rfl (by simp) rfl ?_
      intro ws hh
      replace hh : Hp _ (_ :: .blk _ _ [_, _] _ :: _) _ := hh
      refine wl_end ?_
      refine wc_ret ?_
      -- at ('end', 'ret')
      refine retc1 (by first | exact .inr rfl | exact .inl rfl) rfl (r_cell rfl (lv_agg (vs := [_, _]) TIs.out (hh.rd_blk_at (i := 1) (n := 2) rfl rfl) rfl) r_nil) ?_
      exact ⟨rfl, hh.below⟩
    · have hbp := blen_pos hz
      by_cases hd : 2 ^ m ∣ bN a
      · have e3 : iv true (sN (bN a / 2 ^ m)) = iv true a / 2 ^ m := by
          rw [e4, e5]; exact div_neg_pow _ _ hd
        have htz := (dvd_tz hz).1 hd
        refine calls_vc (N := 47) (l := [.agg #[.bool true, .string a], .int .i64 (-(m : Int))]) Tryz.func110 rfl rfl (by simp) ?_
        refine wc_seq ?_
        refine wc_region ?_
        refine wl_box hh (cs := [_, _]) rfl rfl (by decide) ?_
        intro b2 w2 hh
        refine wl_alloc hh TIs.out (by decide) ?_
        intro b4 w4 hh
        refine wl_end ?_
        refine wc_seq ?_
        refine wc_seq ?_
        refine wc_region ?_
        refine s_move (ev_int rfl) (by decide) ?_
        first | refine s_geq_t rfl rfl (by omega) (by decide) ?_ | refine s_geq_f rfl rfl (by omega) (by decide) ?_ | refine s_geq_v rfl rfl (by decide) ?_
        refine wl_end ?_
        refine wc_cond_f rfl ?_
        refine wc_skip ?_
        refine k_then ?_
        refine wc_seq ?_
        refine wc_region ?_
        refine s_move (ev_int rfl) (by decide) ?_
        refine s_max rfl rfl (by decide) ?_
        refine s_assign (ev_int rfl) (by decide) ?_
        refine wl_end ?_
        refine wc_seq ?_
        -- at the drawn region 4
        rw [e1]
        refine wc_drawn 10 [[(2, none)], [(18, some 0)], [(1, none)], [(20, some 2)], [(19, some 1), (21, some 3)], [(2, none)], [(23, some 5)], [(22, some 4), (24, some 6)], [(25, some 7)], []] [(9, 5), (8, 26), (7, 25), (6, 24), (5, 23), (4, 22), (3, 21), (2, 20), (1, 19), (0, 18)] hh mixed (by kernel_rfl) ?_
        refine dx_val (i := 0) (fun ρ1 w1 hj hR => x_fieldAddr (off := 1) FIs.out (show ρ1 2 = Value.pointer _ from hR.1)) ?_
        refine dx_val (i := 1) (fun ρ1 w1 hj hR => x_load1 TIs.out (show ρ1 18 = Value.pointer _ from hR.1) (hj.hp.cell_blk (i := 1) rfl rfl)) ?_
        refine dx_val (i := 2) (fun ρ1 w1 hj hR => x_move (show ρ1 1 = Value.int _ _ from hR.1)) ?_
        refine dx_val (i := 3) (fun ρ1 w1 hj hR => x_negi (show ρ1 20 = Value.int _ _ from hR.1) (by omega) (by omega)) ?_
        refine dx_call (i := 4) (fun ρ1 w1 hj hR => run_callf FnIs.out (evs_cons (show ρ1 19 = Value.string _ from hR.1) (evs_cons (show ρ1 21 = Value.int _ _ from hR.2.1) evs_nil))) (fun w1 hj => hcs _) ?_
        refine dx_val (i := 5) (fun ρ1 w1 hj hR => x_fieldAddr (off := 0) FIs.out (show ρ1 2 = Value.pointer _ from hR.1)) ?_
        refine dx_val (i := 6) (fun ρ1 w1 hj hR => x_load1 TIs.out (show ρ1 23 = Value.pointer _ from hR.1) (hj.hp.cell_blk (i := 1) rfl rfl)) ?_
        refine dx_val (i := 7) (fun ρ1 w1 hj hR => x_build (cs := [_, _]) TIs.out PIs.out (evp_cons (show ρ1 22 = Value.string _ from hR.1) (evp_cons (show ρ1 24 = Value.bool _ from hR.2.1) evp_nil)) rfl) ?_
        refine dx_call (i := 8) (fun ρ1 w1 hj hR => run_callf FnIs.out (evs_cons (show ρ1 25 = Value.agg (List.toArray _) from hR.1) evs_nil)) (fun w1 hj => wmade_calls true (sN (bN a / 2 ^ m)) _) ?_
        refine dx_gen (i := 9) (NewVar _ 23 _) NewVar.ext (fun ρ1 w1 hj hR => og_alloc TIs.out hj.bl (fun v w2 h hb => ⟨hb, h⟩)) ?_
        refine dx_nil ?_
        intro f W hJ hV
        have hb_4 := hJ.bl
        obtain ⟨v5, v26, v25, v24, v23, v22, v21, v20, v19, v18, _⟩ := hV
        simp only [updL]
        have e18 : f 0 = _ := v18
        rw [e18]
        have e19 : f 1 = _ := v19
        rw [e19]
        have e20 : f 2 = _ := v20
        rw [e20]
        have e21 : f 3 = _ := v21
        rw [e21]
        have e22 : f 4 = _ := v22
        rw [e22]
        have e23 : f 5 = _ := v23
        rw [e23]
        have e24 : f 6 = _ := v24
        rw [e24]
        have e25 : f 7 = _ := v25
        rw [e25]
        have e26 : f 8 = _ := v26
        rw [e26]
        obtain ⟨b5, e5, hl5, hc5⟩ : NewVar _ _ _ (f 9) W := v5
        rw [e5]
        replace hh := hJ.newVar hh hl5 hc5
        clear e18 e19 e20 e21 e22 e23 e24 e25 e26 e5 hJ
        rw [e3]
        refine wl_store hh (i := 0) (vs := [_, _]) rfl rfl rfl rfl TIs.out rfl (by simp) rfl ?_
        intro ws hh
        replace hh : Hp _ (.blk _ _ [_, _] _ :: _) _ := hh
        refine wl_end ?_
        refine wc_seq ?_
        refine wc_seq ?_
        refine wc_region ?_
        refine s_fieldAddr (off := 0) FIs.out rfl (by decide) ?_
        refine s_load1 TIs.out rfl (hh.cell_blk (i := 2) rfl rfl) (by decide) ?_
        refine s_move (ev_bool rfl) (by decide) ?_
        first | (refine wl_guard_skip (by decide) rfl rfl (by decide) ?_) | (refine wl_guard_take rfl rfl ?_; (refine s_fieldAddr (off := 1) FIs.out rfl (by decide) ?_)) | (refine wl_guard_skipV (by decide) rfl rfl ?_)
        first | (refine wl_guard_skip (by decide) rfl rfl (by decide) ?_) | (refine wl_guard_take rfl rfl ?_; (refine s_load1 TIs.out rfl (hh.cell_blk (i := 2) rfl rfl) (by decide) ?_)) | (refine wl_guard_skipV (by decide) rfl rfl ?_)
        -- at guarded Op.call { callee := Callee.value (Operand.func 142), args := #[Operand.tmp 31], 
        refine wl_guard_take rfl rfl ?_
        refine s_callf (natLen_calls a _ (by omega)) FnIs.out rfl (by decide) ?_
        rintro e_ w32 ⟨rfl, hb_⟩
        refine ⟨_, rfl, ?_⟩
        replace hh := hh.ext hb_
        first | (refine wl_guard_skip (by decide) rfl rfl (by decide) ?_) | (refine wl_guard_take rfl rfl ?_; (first | refine s_gtr_t rfl rfl (by omega) (by decide) ?_ | refine s_gtr_f rfl rfl (by omega) (by decide) ?_ | refine s_gtr_v rfl rfl (by decide) ?_)) | (refine wl_guard_skipV (by decide) rfl rfl ?_)
        first | refine s_pick_t rfl (ev_bool rfl) (by decide) ?_ | refine s_pick_f rfl (ev_bool rfl) (by decide) ?_
        refine s_move (ev_bool rfl) (by decide) ?_
        first | (refine wl_guard_skip (by decide) rfl rfl (by decide) ?_) | (refine wl_guard_take rfl rfl ?_; (refine s_fieldAddr (off := 1) FIs.out rfl (by decide) ?_)) | (refine wl_guard_skipV (by decide) rfl rfl ?_)
        first | (refine wl_guard_skip (by decide) rfl rfl (by decide) ?_) | (refine wl_guard_take rfl rfl ?_; (refine s_load1 TIs.out rfl (hh.cell_blk (i := 2) rfl rfl) (by decide) ?_)) | (refine wl_guard_skipV (by decide) rfl rfl ?_)
        -- at guarded Op.call { callee := Callee.value (Operand.func 109), args := #[Operand.tmp 37], 
        refine wl_guard_take rfl rfl ?_
        refine s_callf (natZeros_calls a _ (by omega) (hT.hp hh)) FnIs.out rfl (by decide) ?_
        rintro e_ w38 ⟨rfl, hb_⟩
        refine ⟨_, rfl, ?_⟩
        replace hh := hh.ext hb_
        first | (refine wl_guard_skip (by decide) rfl rfl (by decide) ?_) | (refine wl_guard_take rfl rfl ?_; (refine s_move (ev_int rfl) (by decide) ?_)) | (refine wl_guard_skipV (by decide) rfl rfl ?_)
        first | (refine wl_guard_skip (by decide) rfl rfl (by decide) ?_) | (refine wl_guard_take rfl rfl ?_; (refine s_negi rfl (by omega) (by omega) (by decide) ?_)) | (refine wl_guard_skipV (by decide) rfl rfl ?_)
        first | (refine wl_guard_skip (by decide) rfl rfl (by decide) ?_) | (refine wl_guard_take rfl rfl ?_; (first | refine s_lss_t rfl rfl (by omega) (by decide) ?_ | refine s_lss_f rfl rfl (by omega) (by decide) ?_ | refine s_lss_v rfl rfl (by decide) ?_)) | (refine wl_guard_skipV (by decide) rfl rfl ?_)
        first | refine s_pick_t rfl (ev_bool rfl) (by decide) ?_ | refine s_pick_f rfl (ev_bool rfl) (by decide) ?_
        refine wl_end ?_
        refine wc_cond_f rfl ?_
        refine wc_skip ?_
        refine k_then ?_
        refine wc_seq ?_
        refine wc_region ?_
        refine s_load (vs := [_, _]) TIs.out rfl (hh.rd_blk_at (i := 0) (n := 2) rfl rfl) rfl (by decide) ?_
        refine wl_store hh (i := 1) (vs := [_, _]) rfl rfl rfl rfl TIs.out rfl (by simp) rfl ?_
        intro ws hh
        replace hh : Hp _ (_ :: .blk _ _ [_, _] _ :: _) _ := hh
        refine wl_end ?_
        refine wc_ret ?_
        -- at ('end', 'ret')
        refine retc1 (by first | exact .inr rfl | exact .inl rfl) rfl (r_cell rfl (lv_agg (vs := [_, _]) TIs.out (hh.rd_blk_at (i := 1) (n := 2) rfl rfl) rfl) r_nil) ?_
        exact ⟨rfl, hh.below⟩
      · have e3 : iv true (sN (bN a / 2 ^ m)) - 1 = iv true a / 2 ^ m := by
          rw [e4, e5]; exact div_neg_pow' _ _ hd
        have htz : tz (bN a) < m := Nat.lt_of_not_le fun h => hd ((dvd_tz hz).2 h)
        have hsz : (iM (iv true (sN (bN a / 2 ^ m)))).size ≤ 100000000 := by
          have := blen_div_pow (bN a) m
          rw [iM_size, iv_abs, bN_sN]; omega
        have hsub : ∀ w1, Calls Tryz.prog 115 #[.agg #[.bool (iN (iv true (sN (bN a / 2 ^ m)))), .string (iM (iv true (sN (bN a / 2 ^ m))))], .agg #[.bool (iN 1), .string (iM 1)]] w1 fun e w' => e = .returned (.agg #[.bool (iN (iv true a / 2 ^ m)), .string (iM (iv true a / 2 ^ m))]) ∧ Below w1.heap.size w1 w' := fun w1 => by
          have := wSub_calls (iN (iv true (sN (bN a / 2 ^ m)))) (iN 1) (iM (iv true (sN (bN a / 2 ^ m)))) (iM 1) w1 hsz (by rw [iM_size, Int.natAbs_one, blen_one]; omega)
          rw [iv_of, iv_of, e3] at this
          exact this
        refine calls_vc (N := 47) (l := [.agg #[.bool true, .string a], .int .i64 (-(m : Int))]) Tryz.func110 rfl rfl (by simp) ?_
        refine wc_seq ?_
        refine wc_region ?_
        refine wl_box hh (cs := [_, _]) rfl rfl (by decide) ?_
        intro b2 w2 hh
        refine wl_alloc hh TIs.out (by decide) ?_
        intro b4 w4 hh
        refine wl_end ?_
        refine wc_seq ?_
        refine wc_seq ?_
        refine wc_region ?_
        refine s_move (ev_int rfl) (by decide) ?_
        first | refine s_geq_t rfl rfl (by omega) (by decide) ?_ | refine s_geq_f rfl rfl (by omega) (by decide) ?_ | refine s_geq_v rfl rfl (by decide) ?_
        refine wl_end ?_
        refine wc_cond_f rfl ?_
        refine wc_skip ?_
        refine k_then ?_
        refine wc_seq ?_
        refine wc_region ?_
        refine s_move (ev_int rfl) (by decide) ?_
        refine s_max rfl rfl (by decide) ?_
        refine s_assign (ev_int rfl) (by decide) ?_
        refine wl_end ?_
        refine wc_seq ?_
        -- at the drawn region 4
        rw [e1]
        refine wc_drawn 10 [[(2, none)], [(18, some 0)], [(1, none)], [(20, some 2)], [(19, some 1), (21, some 3)], [(2, none)], [(23, some 5)], [(22, some 4), (24, some 6)], [(25, some 7)], []] [(9, 5), (8, 26), (7, 25), (6, 24), (5, 23), (4, 22), (3, 21), (2, 20), (1, 19), (0, 18)] hh mixed (by kernel_rfl) ?_
        refine dx_val (i := 0) (fun ρ1 w1 hj hR => x_fieldAddr (off := 1) FIs.out (show ρ1 2 = Value.pointer _ from hR.1)) ?_
        refine dx_val (i := 1) (fun ρ1 w1 hj hR => x_load1 TIs.out (show ρ1 18 = Value.pointer _ from hR.1) (hj.hp.cell_blk (i := 1) rfl rfl)) ?_
        refine dx_val (i := 2) (fun ρ1 w1 hj hR => x_move (show ρ1 1 = Value.int _ _ from hR.1)) ?_
        refine dx_val (i := 3) (fun ρ1 w1 hj hR => x_negi (show ρ1 20 = Value.int _ _ from hR.1) (by omega) (by omega)) ?_
        refine dx_call (i := 4) (fun ρ1 w1 hj hR => run_callf FnIs.out (evs_cons (show ρ1 19 = Value.string _ from hR.1) (evs_cons (show ρ1 21 = Value.int _ _ from hR.2.1) evs_nil))) (fun w1 hj => hcs _) ?_
        refine dx_val (i := 5) (fun ρ1 w1 hj hR => x_fieldAddr (off := 0) FIs.out (show ρ1 2 = Value.pointer _ from hR.1)) ?_
        refine dx_val (i := 6) (fun ρ1 w1 hj hR => x_load1 TIs.out (show ρ1 23 = Value.pointer _ from hR.1) (hj.hp.cell_blk (i := 1) rfl rfl)) ?_
        refine dx_val (i := 7) (fun ρ1 w1 hj hR => x_build (cs := [_, _]) TIs.out PIs.out (evp_cons (show ρ1 22 = Value.string _ from hR.1) (evp_cons (show ρ1 24 = Value.bool _ from hR.2.1) evp_nil)) rfl) ?_
        refine dx_call (i := 8) (fun ρ1 w1 hj hR => run_callf FnIs.out (evs_cons (show ρ1 25 = Value.agg (List.toArray _) from hR.1) evs_nil)) (fun w1 hj => wmade_calls true (sN (bN a / 2 ^ m)) _) ?_
        refine dx_gen (i := 9) (NewVar _ 23 _) NewVar.ext (fun ρ1 w1 hj hR => og_alloc TIs.out hj.bl (fun v w2 h hb => ⟨hb, h⟩)) ?_
        refine dx_nil ?_
        intro f W hJ hV
        have hb_4 := hJ.bl
        obtain ⟨v5, v26, v25, v24, v23, v22, v21, v20, v19, v18, _⟩ := hV
        simp only [updL]
        have e18 : f 0 = _ := v18
        rw [e18]
        have e19 : f 1 = _ := v19
        rw [e19]
        have e20 : f 2 = _ := v20
        rw [e20]
        have e21 : f 3 = _ := v21
        rw [e21]
        have e22 : f 4 = _ := v22
        rw [e22]
        have e23 : f 5 = _ := v23
        rw [e23]
        have e24 : f 6 = _ := v24
        rw [e24]
        have e25 : f 7 = _ := v25
        rw [e25]
        have e26 : f 8 = _ := v26
        rw [e26]
        obtain ⟨b5, e5, hl5, hc5⟩ : NewVar _ _ _ (f 9) W := v5
        rw [e5]
        replace hh := hJ.newVar hh hl5 hc5
        clear e18 e19 e20 e21 e22 e23 e24 e25 e26 e5 hJ
        refine wl_store hh (i := 0) (vs := [_, _]) rfl rfl rfl rfl TIs.out rfl (by simp) rfl ?_
        intro ws hh
        replace hh : Hp _ (.blk _ _ [_, _] _ :: _) _ := hh
        refine wl_end ?_
        refine wc_seq ?_
        refine wc_seq ?_
        refine wc_region ?_
        refine s_fieldAddr (off := 0) FIs.out rfl (by decide) ?_
        refine s_load1 TIs.out rfl (hh.cell_blk (i := 2) rfl rfl) (by decide) ?_
        refine s_move (ev_bool rfl) (by decide) ?_
        first | (refine wl_guard_skip (by decide) rfl rfl (by decide) ?_) | (refine wl_guard_take rfl rfl ?_; (refine s_fieldAddr (off := 1) FIs.out rfl (by decide) ?_)) | (refine wl_guard_skipV (by decide) rfl rfl ?_)
        first | (refine wl_guard_skip (by decide) rfl rfl (by decide) ?_) | (refine wl_guard_take rfl rfl ?_; (refine s_load1 TIs.out rfl (hh.cell_blk (i := 2) rfl rfl) (by decide) ?_)) | (refine wl_guard_skipV (by decide) rfl rfl ?_)
        -- at guarded Op.call { callee := Callee.value (Operand.func 142), args := #[Operand.tmp 31], 
        refine wl_guard_take rfl rfl ?_
        refine s_callf (natLen_calls a _ (by omega)) FnIs.out rfl (by decide) ?_
        rintro e_ w32 ⟨rfl, hb_⟩
        refine ⟨_, rfl, ?_⟩
        replace hh := hh.ext hb_
        first | (refine wl_guard_skip (by decide) rfl rfl (by decide) ?_) | (refine wl_guard_take rfl rfl ?_; (first | refine s_gtr_t rfl rfl (by omega) (by decide) ?_ | refine s_gtr_f rfl rfl (by omega) (by decide) ?_ | refine s_gtr_v rfl rfl (by decide) ?_)) | (refine wl_guard_skipV (by decide) rfl rfl ?_)
        first | refine s_pick_t rfl (ev_bool rfl) (by decide) ?_ | refine s_pick_f rfl (ev_bool rfl) (by decide) ?_
        refine s_move (ev_bool rfl) (by decide) ?_
        first | (refine wl_guard_skip (by decide) rfl rfl (by decide) ?_) | (refine wl_guard_take rfl rfl ?_; (refine s_fieldAddr (off := 1) FIs.out rfl (by decide) ?_)) | (refine wl_guard_skipV (by decide) rfl rfl ?_)
        first | (refine wl_guard_skip (by decide) rfl rfl (by decide) ?_) | (refine wl_guard_take rfl rfl ?_; (refine s_load1 TIs.out rfl (hh.cell_blk (i := 2) rfl rfl) (by decide) ?_)) | (refine wl_guard_skipV (by decide) rfl rfl ?_)
        -- at guarded Op.call { callee := Callee.value (Operand.func 109), args := #[Operand.tmp 37], 
        refine wl_guard_take rfl rfl ?_
        refine s_callf (natZeros_calls a _ (by omega) (hT.hp hh)) FnIs.out rfl (by decide) ?_
        rintro e_ w38 ⟨rfl, hb_⟩
        refine ⟨_, rfl, ?_⟩
        replace hh := hh.ext hb_
        first | (refine wl_guard_skip (by decide) rfl rfl (by decide) ?_) | (refine wl_guard_take rfl rfl ?_; (refine s_move (ev_int rfl) (by decide) ?_)) | (refine wl_guard_skipV (by decide) rfl rfl ?_)
        first | (refine wl_guard_skip (by decide) rfl rfl (by decide) ?_) | (refine wl_guard_take rfl rfl ?_; (refine s_negi rfl (by omega) (by omega) (by decide) ?_)) | (refine wl_guard_skipV (by decide) rfl rfl ?_)
        first | (refine wl_guard_skip (by decide) rfl rfl (by decide) ?_) | (refine wl_guard_take rfl rfl ?_; (first | refine s_lss_t rfl rfl (by omega) (by decide) ?_ | refine s_lss_f rfl rfl (by omega) (by decide) ?_ | refine s_lss_v rfl rfl (by decide) ?_)) | (refine wl_guard_skipV (by decide) rfl rfl ?_)
        first | refine s_pick_t rfl (ev_bool rfl) (by decide) ?_ | refine s_pick_f rfl (ev_bool rfl) (by decide) ?_
        refine wl_end ?_
        refine wc_cond_t rfl ?_
        refine wc_seq ?_
        -- at the drawn region 6
        refine wc_drawn 2 [[(5, none)], []] [(1, 44), (0, 43)] hh mixed (by kernel_rfl) ?_
        refine dx_val (i := 0) (fun ρ1 w1 hj hR => x_load (vs := [_, _]) TIs.out (show ρ1 5 = Value.pointer _ from hR.1) (hj.hp.rd_blk_at (i := 0) (n := 2) rfl rfl) rfl) ?_
        refine dx_call (i := 1) (fun ρ1 w1 hj hR => run_callf FnIs.out (evs_cons rfl evs_nil)) (fun w1 hj => wOf_calls 1 _ (by omega) (by omega)) ?_
        refine dx_nil ?_
        intro f W hJ hV
        have hb_6 := hJ.bl
        obtain ⟨v44, v43, _⟩ := hV
        simp only [updL]
        have e43 : f 0 = _ := v43
        rw [e43]
        have e44 : f 1 = _ := v44
        rw [e44]
        replace hh := hJ.hp
        clear e43 e44 hJ
        -- at some 45 := Op.call { callee := Callee.value (Operand.func 115), args := #[Operand.tmp 43, Operand.tmp
        refine s_callf (hsub _) FnIs.out rfl (by decide) ?_
        rintro e_ w45 ⟨rfl, hb_⟩
        refine ⟨_, rfl, ?_⟩
        replace hh := hh.ext hb_
        refine wl_store hh (i := 1) (vs := [_, _]) rfl rfl rfl rfl TIs.out rfl (by simp) rfl ?_
        intro ws hh
        replace hh : Hp _ (_ :: .blk _ _ [_, _] _ :: _) _ := hh
        refine wl_end ?_
        refine wc_ret ?_
        refine k_ret ?_
        -- at ('end', 'ret')
        refine retc1 (by first | exact .inr rfl | exact .inl rfl) rfl (r_cell rfl (lv_agg (vs := [_, _]) TIs.out (hh.rd_blk_at (i := 1) (n := 2) rfl rfl) rfl) r_nil) ?_
        exact ⟨rfl, hh.below⟩
end Go.Proofs.YthmmofllajkejaaGreatDoor
