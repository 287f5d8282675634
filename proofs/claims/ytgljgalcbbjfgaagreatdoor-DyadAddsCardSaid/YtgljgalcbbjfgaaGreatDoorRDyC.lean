/- The walks through the document's answer for dyadic numbers (ogeeref04): powers, floors, the least and the greatest. -/
import Derived.Test.YtgljgalcbbjfgaaGreatDoorRDyB
namespace Go.Proofs.YtgljgalcbbjfgaaGreatDoor
open Go.RowKit
-- umode
theorem Sz.pow {k : Nat} {x : Dyadic} (h : Sz k x) (n : Nat) : Sz (1 + k * n) (x ^ n) := by
  induction n with
  | zero => rw [Dyadic.pow_zero]; exact Sz.one
  | succ n ih => rw [Dyadic.pow_succ]; exact (ih.mul h).mono (by rw [Nat.mul_succ]; omega)
theorem yPow_calls (a : NR) (n : Int) (w : World) (ha : a.ok) (k : Nat) (hk : Sz k a.d) (hkn : k * n.toNat ≤ 3999980) (hn : n ≤ 1000000) :
    Calls Tryz.prog 13 #[.agg #[.bool a.neg, .string a.mag, .int .i64 a.e], .int .i64 n] w fun r w' => r = .returned (.agg #[.bool (nR (a.d ^ n.toNat)).neg, .string (nR (a.d ^ n.toNat)).mag, .int .i64 (nR (a.d ^ n.toNat)).e]) ∧ Below w.heap.size w w' := by
  have hh := Hp.start w
  obtain ⟨xo1, xo2, xo3⟩ := ha
  refine calls_vc (N := 17) (l := [.agg #[.bool a.neg, .string a.mag, .int .i64 a.e], .int .i64 n]) Tryz.func13 rfl rfl (by simp) ?_
  refine wc_seq ?_
  refine wc_region ?_
  refine wl_box hh (cs := [_, _, _]) rfl rfl (by decide) ?_
  intro b2 w2 hh
  refine wl_alloc hh TIs.out (by decide) ?_
  intro b4 w4 hh
  refine wl_end ?_
  refine wc_seq ?_
  refine wc_region ?_
  -- at some 7 := Op.call { callee := Callee.value (Operand.func 22), args := #[Operand.const (Value.int Int
  refine s_callf (yOf_calls 1 _ (by omega) (by omega)) FnIs.out rfl (by decide) ?_
  rintro e_ w7 ⟨rfl, hb_⟩
  refine ⟨_, rfl, ?_⟩
  replace hh := hh.ext hb_
  refine wl_alloc hh TIs.out (by decide) ?_
  intro b5 w5 hh
  refine wl_store hh (i := 0) (vs := [_, _, _]) rfl rfl rfl rfl TIs.out rfl (by simp) rfl ?_
  intro ws hh
  replace hh : Hp _ (.blk _ _ [_, _, _] _ :: _) _ := hh
  refine wl_end ?_
  refine wc_seq ?_
  refine wc_seq ?_
  refine wc_region ?_
  refine s_assign (ev_int rfl) (by decide) ?_
  refine wl_end ?_
  refine wc_block ?_
  -- at a loop
  refine wc_loop1 [6, 8, 9, 10, 11, 12, 13, 14, 15] 6
    (fun j w' => ∃ (i : Nat) (S : Dyadic), i ≤ n.toNat ∧ j = .int .i64 i ∧ S = a.d ^ i ∧ Hp w [.blk b5 28 [.bool (nR S).neg, .string (nR S).mag, .int .i64 (nR S).e] (0, 0), .blk b4 28 [.bool false, .string (ByteArray.mk #[]), .int .i64 0] (0, 0), .blk b2 28 [.bool a.neg, .string a.mag, .int .i64 a.e] (0, 0)] w')
    (fun j _ => n.toNat - (intOf j).toNat) ?_ ?_
  · exact ⟨0, _, Nat.zero_le _, rfl, (Dyadic.pow_zero _).symm, hh⟩
  · clear hh
    rintro ρ' j w' ⟨i, S, hi, rfl, hS2, hh⟩
    -- 
    by_cases hlt : i < n.toNat
    · have hlt2 : (i : Int) < n := by omega
      have hS3 : a.d ^ (i + 1) = S * a.d := by rw [Dyadic.pow_succ, hS2]
      have hSz : Sz (1 + k * i) S := by rw [hS2]; exact hk.pow i
      have hki : k * i ≤ k * n.toNat := Nat.mul_le_mul_left _ hi
      obtain ⟨so1, so2, so3⟩ := hSz.ok (by omega)
      have hpc := fun w1 => yTimes_calls (nR S) a w1 (by omega) (by omega) (by omega) (by omega) (by omega) (by omega)
      rw [nR_d] at hpc
      refine wc_seq ?_
      refine wc_seq ?_
      refine wc_region ?_
      refine s_move (ev_int rfl) (by decide) ?_
      refine s_move (ev_int rfl) (by decide) ?_
      first | refine s_lss_t rfl rfl (by omega) (by decide) ?_ | refine s_lss_f rfl rfl (by omega) (by decide) ?_ | refine s_lss_v rfl rfl (by decide) ?_
      refine wl_end ?_
      refine wc_cond_t rfl ?_
      refine wc_skip ?_
      refine k_then ?_
      refine wc_seq ?_
      refine wc_block ?_
      refine wc_region ?_
      refine s_load (vs := [_, _, _]) TIs.out rfl (hh.rd_blk_at (i := 0) (n := 3) rfl rfl) rfl (by decide) ?_
      refine s_load (vs := [_, _, _]) TIs.out rfl (hh.rd_blk_at (i := 2) (n := 3) rfl rfl) rfl (by decide) ?_
      -- at some 15 := Op.call { callee := Callee.value (Operand.func 44), args := #[Operand.tmp 13, Operand.tmp 
      refine s_callf (hpc _) FnIs.out rfl (by decide) ?_
      rintro e_ w15 ⟨rfl, hb_⟩
      refine ⟨_, rfl, ?_⟩
      replace hh := hh.ext hb_
      refine wl_store hh (i := 0) (vs := [_, _, _]) rfl rfl rfl rfl TIs.out rfl (by simp) rfl ?_
      intro ws hh
      replace hh : Hp _ (.blk _ _ [_, _, _] _ :: _) _ := hh
      refine wl_nil ?_
      refine b_norm ?_
      refine k_then ?_
      refine wc_region ?_
      refine s_move (ev_int rfl) (by decide) ?_
      refine s_addi rfl rfl (by omega) (by omega) (by decide) ?_
      refine s_assign (ev_int rfl) (by decide) ?_
      refine wl_nil ?_
      refine k_then ?_
      -- at ('round',)
      refine ⟨⟨i + 1, _, by omega, rfl, hS3.symm, hh⟩, by show n.toNat - (i + 1) < n.toNat - i; omega, ?_⟩
      (repeat (first | exact agree_mask _ _ _ | refine agree_upd rfl ?_ | refine agree_mask2 rfl ?_))
    · have hlt2 : ¬ (i : Int) < n := by omega
      have hin : i = n.toNat := by omega
      refine wc_seq ?_
      refine wc_seq ?_
      refine wc_region ?_
      refine s_move (ev_int rfl) (by decide) ?_
      refine s_move (ev_int rfl) (by decide) ?_
      first | refine s_lss_t rfl rfl (by omega) (by decide) ?_ | refine s_lss_f rfl rfl (by omega) (by decide) ?_ | refine s_lss_v rfl rfl (by decide) ?_
      refine wl_end ?_
      refine wc_cond_f rfl ?_
      refine wc_exit ?_
      refine k_exit ?_
      refine k_exit ?_
      refine b_here ?_
      refine k_then ?_
      refine wc_seq ?_
      refine wc_region ?_
      refine s_load (vs := [_, _, _]) TIs.out rfl (hh.rd_blk_at (i := 0) (n := 3) rfl rfl) rfl (by decide) ?_
      refine wl_store hh (i := 1) (vs := [_, _, _]) rfl rfl rfl rfl TIs.out rfl (by simp) rfl ?_
      intro ws hh
      replace hh : Hp _ (_ :: .blk _ _ [_, _, _] _ :: _) _ := hh
      refine wl_end ?_
      refine wc_ret ?_
      -- at ('end', 'ret')
      refine retc1 (by first | exact .inr rfl | exact .inl rfl) rfl (r_cell rfl (lv_agg (vs := [_, _, _]) TIs.out (hh.rd_blk_at (i := 1) (n := 3) rfl rfl) rfl) r_nil) ?_
      rw [hS2, hin]
      exact ⟨rfl, hh.below⟩
theorem yFloor_calls (a : NR) (p : Int) (w : World) (ha : a.ok) (h1 : -1000000 ≤ p) (h2 : p ≤ 1000000) :
    Calls Tryz.prog 15 #[.agg #[.bool a.neg, .string a.mag, .int .i64 a.e], .int .i64 p] w fun r w' => r = .returned (.agg #[.bool (nR (a.d.roundDown p)).neg, .string (nR (a.d.roundDown p)).mag, .int .i64 (nR (a.d.roundDown p)).e]) ∧ Below w.heap.size w w' := by
  have hh := Hp.start w
  obtain ⟨ha1, ha2, ha3⟩ := ha
  obtain ⟨_, fa1, fa2, fa3⟩ := raw_form (a := a) ⟨ha1, ha2, ha3⟩
  by_cases hk : -p ≤ (nR a.d).e
  · rw [floor_keep hk]
    refine calls_vc (N := 34) (l := [.agg #[.bool a.neg, .string a.mag, .int .i64 a.e], .int .i64 p]) Tryz.func15 rfl rfl (by simp) ?_
    refine wc_seq ?_
    refine wc_region ?_
    refine wl_box hh (cs := [_, _, _]) rfl rfl (by decide) ?_
    intro b2 w2 hh
    refine wl_alloc hh TIs.out (by decide) ?_
    intro b4 w4 hh
    refine wl_end ?_
    refine wc_seq ?_
    refine wc_region ?_
    refine s_load (vs := [_, _, _]) TIs.out rfl (hh.rd_blk_at (i := 1) (n := 3) rfl rfl) rfl (by decide) ?_
    -- at some 9 := Op.call { callee := Callee.value (Operand.func 18), args := #[Operand.tmp 8], argTypes := 
    refine s_callf (yForm_calls a _ (by omega) (by omega) (by omega)) FnIs.out rfl (by decide) ?_
    rintro e_ w9 ⟨rfl, hb_⟩
    refine ⟨_, rfl, ?_⟩
    replace hh := hh.ext hb_
    refine wl_store hh (i := 1) (vs := [_, _, _]) rfl rfl rfl rfl TIs.out rfl (by simp) rfl ?_
    intro ws hh
    replace hh : Hp _ (_ :: .blk _ _ [_, _, _] _ :: _) _ := hh
    refine wl_end ?_
    refine wc_seq ?_
    refine wc_seq ?_
    refine wc_region ?_
    refine s_fieldAddr (off := 2) FIs.out rfl (by decide) ?_
    refine s_load1 TIs.out rfl (hh.cell_blk (i := 1) rfl rfl) (by decide) ?_
    refine s_move (ev_int rfl) (by decide) ?_
    refine s_addi rfl rfl (by omega) (by omega) (by decide) ?_
    first | refine s_geq_t rfl rfl (by omega) (by decide) ?_ | refine s_geq_f rfl rfl (by omega) (by decide) ?_ | refine s_geq_v rfl rfl (by decide) ?_
    refine wl_end ?_
    refine wc_cond_t rfl ?_
    refine wc_seq ?_
    refine wc_region ?_
    refine s_load (vs := [_, _, _]) TIs.out rfl (hh.rd_blk_at (i := 1) (n := 3) rfl rfl) rfl (by decide) ?_
    refine wl_store hh (i := 0) (vs := [_, _, _]) rfl rfl rfl rfl TIs.out rfl (by simp) rfl ?_
    intro ws hh
    replace hh : Hp _ (.blk _ _ [_, _, _] _ :: _) _ := hh
    refine wl_end ?_
    refine wc_ret ?_
    refine k_ret ?_
    -- at ('end', 'ret')
    refine retc1 (by first | exact .inr rfl | exact .inl rfl) rfl (r_cell rfl (lv_agg (vs := [_, _, _]) TIs.out (hh.rd_blk_at (i := 0) (n := 3) rfl rfl) rfl) r_nil) ?_
    exact ⟨rfl, hh.below⟩
  · rw [floor_cut hk]
    have hb := intAt_blen a.d p
    obtain ⟨k, hk2⟩ : ∃ k : Nat, -(nR a.d).e - p = k := ⟨(-(nR a.d).e - p).toNat, by omega⟩
    have hpw : bN (iM ((2 : Int) ^ k)) = 2 ^ k := by rw [iM, bN_sN, Int.natAbs_pow]; rfl
    have hneg : iN ((2 : Int) ^ k) = false := decide_eq_false (by have : (0 : Int) < 2 ^ k := Int.pow_pos (by omega); omega)
    have hpos : (2 : Nat) ^ k ≠ 0 := Nat.ne_of_gt (Nat.pow_pos (by omega))
    have hsz : (iM ((2 : Int) ^ k)).size ≤ 10000000 := by
      rw [iM_size, Int.natAbs_pow]
      have : blen (Int.natAbs 2 ^ k) ≤ k + 1 := blen_le (by show 2 ^ k < 2 ^ (k + 1); rw [Nat.pow_succ]; have : 0 < 2 ^ k := Nat.pow_pos (by omega); omega)
      omega
    have hat : (nR a.d).i / ((2 ^ k : Nat) : Int) = intAt a.d p := by
      have h3 := nR_i_shift a.d p
      unfold shI at h3
      rw [if_neg (by omega), show (-((nR a.d).e - -p)).toNat = k by omega] at h3
      rw [← h3, Int.natCast_pow]
      rfl
    have hshl : ∀ w1, Calls Tryz.prog 48 #[.agg #[.bool (iN 1), .string (iM 1)], .int .i64 (-(nR a.d).e - p)] w1 fun e w' => e = .returned (.agg #[.bool false, .string (iM ((2 : Int) ^ k))]) ∧ Below w1.heap.size w1 w' := fun w1 => by
      have := xshl_calls (iN 1) (iM 1) k w1 (by rw [iM_size]; decide) (by omega)
      rw [iv_of, Int.one_mul, hneg] at this
      rw [hk2]
      exact this
    have hdiv : ∀ w1, Calls Tryz.prog 47 #[.agg #[.bool (nR a.d).neg, .string (nR a.d).mag], .agg #[.bool false, .string (iM ((2 : Int) ^ k))]] w1 fun e w' => e = .returned (.tuple #[.agg #[.bool (iN (intAt a.d p)), .string (iM (intAt a.d p))], .agg #[.bool (iN ((nR a.d).i % ((2 ^ k : Nat) : Int))), .string (iM ((nR a.d).i % ((2 ^ k : Nat) : Int)))], .bool true]) ∧ Below w1.heap.size w1 w' := fun w1 => by
      have := xdiv_calls (nR a.d).neg (nR a.d).mag (iM ((2 : Int) ^ k)) w1 (by omega) hsz (by rw [hpw]; exact hpos)
      rw [hpw] at this
      unfold NR.i at hat
      rw [hat] at this
      exact this
    have hmc := fun w1 => yMake_at (z := intAt a.d p) (e := -p) (x := Dyadic.ofIntWithPrec (intAt a.d p) p) w1 (by rw [Int.neg_neg]) (by rw [iM_size]; omega) (by omega) (by omega)
    refine calls_vc (N := 34) (l := [.agg #[.bool a.neg, .string a.mag, .int .i64 a.e], .int .i64 p]) Tryz.func15 rfl rfl (by simp) ?_
    refine wc_seq ?_
    refine wc_region ?_
    refine wl_box hh (cs := [_, _, _]) rfl rfl (by decide) ?_
    intro b2 w2 hh
    refine wl_alloc hh TIs.out (by decide) ?_
    intro b4 w4 hh
    refine wl_end ?_
    refine wc_seq ?_
    refine wc_region ?_
    refine s_load (vs := [_, _, _]) TIs.out rfl (hh.rd_blk_at (i := 1) (n := 3) rfl rfl) rfl (by decide) ?_
    -- at some 9 := Op.call { callee := Callee.value (Operand.func 18), args := #[Operand.tmp 8], argTypes := 
    refine s_callf (yForm_calls a _ (by omega) (by omega) (by omega)) FnIs.out rfl (by decide) ?_
    rintro e_ w9 ⟨rfl, hb_⟩
    refine ⟨_, rfl, ?_⟩
    replace hh := hh.ext hb_
    refine wl_store hh (i := 1) (vs := [_, _, _]) rfl rfl rfl rfl TIs.out rfl (by simp) rfl ?_
    intro ws hh
    replace hh : Hp _ (_ :: .blk _ _ [_, _, _] _ :: _) _ := hh
    refine wl_end ?_
    refine wc_seq ?_
    refine wc_seq ?_
    refine wc_region ?_
    refine s_fieldAddr (off := 2) FIs.out rfl (by decide) ?_
    refine s_load1 TIs.out rfl (hh.cell_blk (i := 1) rfl rfl) (by decide) ?_
    refine s_move (ev_int rfl) (by decide) ?_
    refine s_addi rfl rfl (by omega) (by omega) (by decide) ?_
    first | refine s_geq_t rfl rfl (by omega) (by decide) ?_ | refine s_geq_f rfl rfl (by omega) (by decide) ?_ | refine s_geq_v rfl rfl (by decide) ?_
    refine wl_end ?_
    refine wc_cond_f rfl ?_
    refine wc_skip ?_
    refine k_then ?_
    refine wc_seq ?_
    -- at the drawn region 4
    refine wc_drawn2 [14, 15] [12, 13] [0, 1, 0, 0, 8, 24, 0, 120, 252, 511, 1023, 2047, 2047, 2047, 0, 0, 53247, 122879, 262143] 16 [[(2, none)], [(17, some 0)], [], [(2, none)], [(20, some 3)], [(21, some 4)], [(1, none)], [(22, some 5), (23, some 6)], [(19, some 2), (24, some 7)], [(18, some 1), (25, some 8)], [(26, some 9)], [(16, some 10)], [(16, some 10)], [(16, some 10)], [], []] [(15, 6), (14, 5), (13, 29), (12, 28), (11, 27), (10, 16), (9, 26), (8, 25), (7, 24), (6, 23), (5, 22), (4, 21), (3, 20), (2, 19), (1, 18), (0, 17)] hh mixed (by kernel_rfl) (alok_cons rfl TIs.out (alok_cons rfl TIs.out alok_nil)) rfl (by repeat (first | exact np_ret | refine np_then ?_ | refine np_blk ?_)) ?_
    refine dx_val (i := 0) (fun ρ1 w1 hj hR => x_fieldAddr (off := 0) FIs.out (show ρ1 2 = Value.pointer _ from hR.1)) ?_
    refine dx_val (i := 1) (fun ρ1 w1 hj hR => x_load (vs := [_, _]) TIs.out (show ρ1 17 = Value.pointer _ from hR.1) (hj.hp.rd_blk_at (i := 1) (n := 2) rfl rfl) rfl) ?_
    refine dx_call (i := 2) (fun ρ1 w1 hj hR => run_callf FnIs.out (evs_cons rfl evs_nil)) (fun w1 hj => xOf_calls 1 _ (by omega) (by omega)) ?_
    refine dx_val (i := 3) (fun ρ1 w1 hj hR => x_fieldAddr (off := 2) FIs.out (show ρ1 2 = Value.pointer _ from hR.1)) ?_
    refine dx_val (i := 4) (fun ρ1 w1 hj hR => x_load1 TIs.out (show ρ1 20 = Value.pointer _ from hR.1) (hj.hp.cell_blk (i := 1) rfl rfl)) ?_
    refine dx_val (i := 5) (fun ρ1 w1 hj hR => x_negi (show ρ1 21 = Value.int _ _ from hR.1) (by omega) (by omega)) ?_
    refine dx_val (i := 6) (fun ρ1 w1 hj hR => x_move (show ρ1 1 = Value.int _ _ from hR.1)) ?_
    refine dx_val (i := 7) (fun ρ1 w1 hj hR => x_subi (show ρ1 22 = Value.int _ _ from hR.1) (show ρ1 23 = Value.int _ _ from hR.2.1) (by omega) (by omega)) ?_
    refine dx_call (i := 8) (fun ρ1 w1 hj hR => run_callf FnIs.out (evs_cons (show ρ1 19 = Value.agg (List.toArray _) from hR.1) (evs_cons (show ρ1 24 = Value.int _ _ from hR.2.1) evs_nil))) (fun w1 hj => hshl _) ?_
    refine dx_call (i := 9) (fun ρ1 w1 hj hR => run_callf FnIs.out (evs_cons (show ρ1 18 = Value.agg (List.toArray _) from hR.1) (evs_cons (show ρ1 25 = Value.agg (List.toArray _) from hR.2.1) evs_nil))) (fun w1 hj => hdiv _) ?_
    refine dx_val (i := 10) (fun ρ1 w1 hj hR => x_move (show ρ1 26 = Value.tuple (List.toArray _) from hR.1)) ?_
    refine dx_val (i := 11) (fun ρ1 w1 hj hR => x_extract (show ρ1 16 = Value.tuple (List.toArray _) from hR.1) rfl) ?_
    refine dx_val (i := 12) (fun ρ1 w1 hj hR => x_extract (show ρ1 16 = Value.tuple (List.toArray _) from hR.1) rfl) ?_
    refine dx_val (i := 13) (fun ρ1 w1 hj hR => x_extract (show ρ1 16 = Value.tuple (List.toArray _) from hR.1) rfl) ?_
    refine dx_gen (i := 14) (NewVar _ 26 _) NewVar.ext (fun ρ1 w1 hj hR => og_alloc TIs.out hj.bl (fun v w2 h hb => ⟨hb, h⟩)) ?_
    refine dx_gen (i := 15) (NewVar _ 26 _) NewVar.ext (fun ρ1 w1 hj hR => og_alloc TIs.out hj.bl (fun v w2 h hb => ⟨hb, h⟩)) ?_
    refine dx_nil ?_
    intro f W hJ hV hD
    have hb_4 := hJ.bl
    obtain ⟨v6, v5, v29, v28, v27, v16, v26, v25, v24, v23, v22, v21, v20, v19, v18, v17, _⟩ := hV
    simp only [updL]
    have e17 : f 0 = _ := v17
    rw [e17]
    have e18 : f 1 = _ := v18
    rw [e18]
    have e19 : f 2 = _ := v19
    rw [e19]
    have e20 : f 3 = _ := v20
    rw [e20]
    have e21 : f 4 = _ := v21
    rw [e21]
    have e22 : f 5 = _ := v22
    rw [e22]
    have e23 : f 6 = _ := v23
    rw [e23]
    have e24 : f 7 = _ := v24
    rw [e24]
    have e25 : f 8 = _ := v25
    rw [e25]
    have e26 : f 9 = _ := v26
    rw [e26]
    have e16 : f 10 = _ := v16
    rw [e16]
    have e27 : f 11 = _ := v27
    rw [e27]
    have e28 : f 12 = _ := v28
    rw [e28]
    have e29 : f 13 = _ := v29
    rw [e29]
    obtain ⟨b5, e5, hl5, hc5⟩ : NewVar _ _ _ (f 14) W := v5
    obtain ⟨b6, e6, hl6, hc6⟩ : NewVar _ _ _ (f 15) W := v6
    have hne := ptr_ne hD (i := 14) (j := 15) (by decide) (by decide) (by decide) e5 e6
    replace hh := hJ.newVar2 hh hl5 hc5 hl6 hc6 hne
    clear hD hne
    rw [e5, e6]
    clear e17 e18 e19 e20 e21 e22 e23 e24 e25 e26 e16 e27 e28 e29 e5 e6 hJ
    refine wl_store hh (i := 1) (vs := [_, _]) rfl rfl rfl rfl TIs.out rfl (by simp) rfl ?_
    intro ws hh
    replace hh : Hp _ (_ :: .blk _ _ [_, _] _ :: _) _ := hh
    refine wl_store hh (i := 0) (vs := [_, _]) rfl rfl rfl rfl TIs.out rfl (by simp) rfl ?_
    intro ws hh
    replace hh : Hp _ (.blk _ _ [_, _] _ :: _) _ := hh
    refine s_assign (ev_bool rfl) (by decide) ?_
    refine wl_end ?_
    refine wc_seq ?_
    refine wc_region ?_
    refine s_load (vs := [_, _]) TIs.out rfl (hh.rd_blk_at (i := 1) (n := 2) rfl rfl) rfl (by decide) ?_
    refine s_move (ev_int rfl) (by decide) ?_
    refine s_negi rfl (by omega) (by omega) (by decide) ?_
    -- at some 33 := Op.call { callee := Callee.value (Operand.func 24), args := #[Operand.tmp 30, Operand.tmp 
    refine s_callf (hmc _) FnIs.out rfl (by decide) ?_
    rintro e_ w33 ⟨rfl, hb_⟩
    refine ⟨_, rfl, ?_⟩
    replace hh := hh.ext hb_
    refine wl_store hh (i := 2) (vs := [_, _, _]) rfl rfl rfl rfl TIs.out rfl (by simp) rfl ?_
    intro ws hh
    replace hh : Hp _ (_ :: _ :: .blk _ _ [_, _, _] _ :: _) _ := hh
    refine wl_end ?_
    refine wc_ret ?_
    -- at ('end', 'ret')
    refine retc1 (by first | exact .inr rfl | exact .inl rfl) rfl (r_cell rfl (lv_agg (vs := [_, _, _]) TIs.out (hh.rd_blk_at (i := 2) (n := 3) rfl rfl) rfl) r_nil) ?_
    exact ⟨rfl, hh.below⟩
theorem ceil_cut {x : Dyadic} {p : Int} (hx : x ≠ 0) (h : ¬ -p ≤ (nR x).e) : -((-x).roundDown p) = x.roundDown p + Dyadic.ofIntWithPrec 1 p ∧ x.roundDown p ≠ x := by
  have h2 : ¬ -p ≤ (nR (-x)).e := by rw [(neg_bd x).2]; exact h
  rw [floor_cut h, floor_cut h2, owp_neg, owp_add]
  cases x with
  | zero => exact absurd rfl hx
  | ofOdd n k hn =>
    simp only [nR] at h
    obtain ⟨l, hl⟩ := Int.eq_ofNat_of_zero_le (show 0 ≤ k - p - 1 by omega)
    have e1 : intAt (.ofOdd n k hn) p = n / 2 ^ (l + 1) := by
      simp only [intAt, shI]
      rw [if_neg (by omega), show (-(p - k)).toNat = l + 1 by omega]
    have e2 : intAt (-.ofOdd n k hn) p = (-n) / 2 ^ (l + 1) := by
      show intAt (.ofOdd (-n) k _) p = _
      simp only [intAt, shI]
      rw [if_neg (by omega), show (-(p - k)).toNat = l + 1 by omega]
    have hpos : (0 : Int) < 2 ^ (l + 1) := Int.pow_pos (by omega)
    have hdm : 2 ^ (l + 1) * (n / 2 ^ (l + 1)) + n % 2 ^ (l + 1) = n := Int.mul_ediv_add_emod _ _
    have hm0 : n % 2 ^ (l + 1) ≠ 0 := fun h0 => by
      rw [h0, Int.pow_succ, Int.mul_comm (2 ^ l), Int.mul_assoc] at hdm
      omega
    have hm1 : 0 ≤ n % 2 ^ (l + 1) := Int.emod_nonneg _ (by omega)
    have hm2 : n % 2 ^ (l + 1) < 2 ^ (l + 1) := Int.emod_lt_of_pos _ hpos
    have e3 : (-n) / 2 ^ (l + 1) = -(n / 2 ^ (l + 1)) - 1 := by
      refine ((Int.ediv_emod_unique (r := 2 ^ (l + 1) - n % 2 ^ (l + 1)) hpos).2 ⟨?_, by omega, by omega⟩).1
      rw [Int.mul_sub, Int.mul_neg, Int.mul_one]
      omega
    rw [e1, e2, e3]
    refine ⟨by congr 1; omega, fun he => ?_⟩
    rw [odd_owp, owp_scale' (n / 2 ^ (l + 1)) (show k = p + ((l + 1 : Nat) : Int) by omega)] at he
    have h3 := owp_inj he
    rw [Int.mul_comm] at h3
    omega
theorem ceil_keep {x : Dyadic} {p : Int} (h : x.roundDown p = x) : -((-x).roundDown p) = x := by
  have hn : -(-x) = x := by grind
  by_cases hx : x = 0
  · rw [hx]; rfl
  · by_cases hk : -p ≤ (nR x).e
    · rw [floor_keep (by rw [(neg_bd x).2]; exact hk), hn]
    · exact absurd h (ceil_cut hx hk).2
theorem ceil_step {x : Dyadic} {p : Int} (h : x.roundDown p ≠ x) : -((-x).roundDown p) = x.roundDown p + Dyadic.ofIntWithPrec 1 p := by
  refine (ceil_cut (fun h0 => h (by rw [h0]; rfl)) fun hk => h (floor_keep hk)).1
theorem Sz.floor {k : Nat} {x : Dyadic} {p : Int} (h : Sz k x) (h1 : -(k : Int) ≤ p) (h2 : p ≤ k) : Sz (3 * k + 14) (x.roundDown p) := by
  by_cases hk : -p ≤ (nR x).e
  · rw [floor_keep hk]; exact h.mono (by omega)
  · rw [floor_cut hk]
    have hb := intAt_blen x p
    have hn := h.nr
    have := Sz.raw (a := ⟨iN (intAt x p), iM (intAt x p), -p⟩) (m := 2 * k + 14) (E := k) (by simp only [iM_size]; omega) (by simp only []; omega) (by simp only []; omega)
    rw [NR.d, NR.i, iv_of, Int.neg_neg] at this
    exact this.mono (by omega)
theorem Sz.two {k : Nat} {p : Int} (h1 : -(k : Int) ≤ p) (h2 : p ≤ k) : Sz (k + 8) (Dyadic.ofIntWithPrec 1 p) := by
  have := Sz.raw (a := ⟨iN 1, iM 1, -p⟩) (m := 8) (E := k) (by show 8 * (iM 1).size ≤ 8; decide) (by simp only []; omega) (by simp only []; omega)
  rw [NR.d, NR.i, iv_of, Int.neg_neg] at this
  exact this.mono (by omega)
theorem cmpD_zero (x y : Dyadic) : cmpD x y = 0 ↔ x = y := by
  unfold cmpD
  constructor
  · intro h
    split at h
    · omega
    · split at h
      · omega
      · grind
  · rintro rfl
    have : ¬ x < x := by grind
    simp [this]
theorem yCeil_calls (a : NR) (p : Int) (w : World) (ha : a.ok) (k : Nat) (hk : Sz k a.d) (hkn : k ≤ 1000000) (h1 : -(k : Int) ≤ p) (h2 : p ≤ k) :
    Calls Tryz.prog 17 #[.agg #[.bool a.neg, .string a.mag, .int .i64 a.e], .int .i64 p] w fun r w' => r = .returned (.agg #[.bool (nR (-((-a.d).roundDown p))).neg, .string (nR (-((-a.d).roundDown p))).mag, .int .i64 (nR (-((-a.d).roundDown p))).e]) ∧ Below w.heap.size w w' := by
  have hh := Hp.start w
  have hF := hk.floor h1 h2
  have hpc := fun w1 => yCmp_calls (nR (a.d.roundDown p)) a w1 (hF.ok (by omega)) ha (hk.ok (by omega)) (by rw [nR_d]; have := ((hF.sub (hk.mono (by omega))).ok (by omega)).1; omega)
  rw [nR_d] at hpc
  by_cases hc : a.d.roundDown p = a.d
  · have hz : cmpD (a.d.roundDown p) a.d = 0 := (cmpD_zero _ _).2 hc
    rw [ceil_keep hc]
    refine calls_vc (N := 20) (l := [.agg #[.bool a.neg, .string a.mag, .int .i64 a.e], .int .i64 p]) Tryz.func17 rfl rfl (by simp) ?_
    refine wc_seq ?_
    refine wc_region ?_
    refine wl_box hh (cs := [_, _, _]) rfl rfl (by decide) ?_
    intro b2 w2 hh
    refine wl_alloc hh TIs.out (by decide) ?_
    intro b4 w4 hh
    refine wl_end ?_
    refine wc_seq ?_
    refine wc_region ?_
    refine s_load (vs := [_, _, _]) TIs.out rfl (hh.rd_blk_at (i := 1) (n := 3) rfl rfl) rfl (by decide) ?_
    refine s_move (ev_int rfl) (by decide) ?_
    -- at some 8 := Op.call { callee := Callee.value (Operand.func 15), args := #[Operand.tmp 6, Operand.tmp 7
    refine s_callf (yFloor_calls a p _ ha (by omega) (by omega)) FnIs.out rfl (by decide) ?_
    rintro e_ w8 ⟨rfl, hb_⟩
    refine ⟨_, rfl, ?_⟩
    replace hh := hh.ext hb_
    refine wl_alloc hh TIs.out (by decide) ?_
    intro b5 w5 hh
    refine wl_store hh (i := 0) (vs := [_, _, _]) rfl rfl rfl rfl TIs.out rfl (by simp) rfl ?_
    intro ws hh
    replace hh : Hp _ (.blk _ _ [_, _, _] _ :: _) _ := hh
    refine wl_end ?_
    refine wc_seq ?_
    refine wc_seq ?_
    refine wc_region ?_
    refine s_load (vs := [_, _, _]) TIs.out rfl (hh.rd_blk_at (i := 0) (n := 3) rfl rfl) rfl (by decide) ?_
    refine s_load (vs := [_, _, _]) TIs.out rfl (hh.rd_blk_at (i := 2) (n := 3) rfl rfl) rfl (by decide) ?_
    -- at some 11 := Op.call { callee := Callee.value (Operand.func 40), args := #[Operand.tmp 9, Operand.tmp 1
    refine s_callf (hpc _) FnIs.out rfl (by decide) ?_
    rintro e_ w11 ⟨rfl, hb_⟩
    refine ⟨_, rfl, ?_⟩
    replace hh := hh.ext hb_
    first | refine s_eql_t rfl rfl (by omega) (by decide) ?_ | refine s_eql_f rfl rfl (by omega) (by decide) ?_ | refine s_eql_v rfl rfl (by decide) ?_
    refine wl_end ?_
    refine wc_cond_t rfl ?_
    refine wc_seq ?_
    refine wc_region ?_
    refine s_load (vs := [_, _, _]) TIs.out rfl (hh.rd_blk_at (i := 0) (n := 3) rfl rfl) rfl (by decide) ?_
    refine wl_store hh (i := 1) (vs := [_, _, _]) rfl rfl rfl rfl TIs.out rfl (by simp) rfl ?_
    intro ws hh
    replace hh : Hp _ (_ :: .blk _ _ [_, _, _] _ :: _) _ := hh
    refine wl_end ?_
    refine wc_ret ?_
    refine k_ret ?_
    -- at ('end', 'ret')
    refine retc1 (by first | exact .inr rfl | exact .inl rfl) rfl (r_cell rfl (lv_agg (vs := [_, _, _]) TIs.out (hh.rd_blk_at (i := 1) (n := 3) rfl rfl) rfl) r_nil) ?_
    rw [hc]
    exact ⟨rfl, hh.below⟩
  · have c1 := ceil_step hc
    have hz : ¬ cmpD (a.d.roundDown p) a.d = 0 := fun h => hc ((cmpD_zero _ _).1 h)
    have hmk := fun w1 => yMake_at (z := 1) (e := -p) (x := Dyadic.ofIntWithPrec 1 p) w1 (by rw [Int.neg_neg]) (by rw [iM_size]; decide) (by omega) (by omega)
    have hpl := fun w1 => yPlus_calls (nR (a.d.roundDown p)) (nR (Dyadic.ofIntWithPrec 1 p)) w1 (hF.ok (by omega)) ((Sz.two h1 h2).ok (by omega))
    rw [nR_d, nR_d, ← c1] at hpl
    refine calls_vc (N := 20) (l := [.agg #[.bool a.neg, .string a.mag, .int .i64 a.e], .int .i64 p]) Tryz.func17 rfl rfl (by simp) ?_
    refine wc_seq ?_
    refine wc_region ?_
    refine wl_box hh (cs := [_, _, _]) rfl rfl (by decide) ?_
    intro b2 w2 hh
    refine wl_alloc hh TIs.out (by decide) ?_
    intro b4 w4 hh
    refine wl_end ?_
    refine wc_seq ?_
    refine wc_region ?_
    refine s_load (vs := [_, _, _]) TIs.out rfl (hh.rd_blk_at (i := 1) (n := 3) rfl rfl) rfl (by decide) ?_
    refine s_move (ev_int rfl) (by decide) ?_
    -- at some 8 := Op.call { callee := Callee.value (Operand.func 15), args := #[Operand.tmp 6, Operand.tmp 7
    refine s_callf (yFloor_calls a p _ ha (by omega) (by omega)) FnIs.out rfl (by decide) ?_
    rintro e_ w8 ⟨rfl, hb_⟩
    refine ⟨_, rfl, ?_⟩
    replace hh := hh.ext hb_
    refine wl_alloc hh TIs.out (by decide) ?_
    intro b5 w5 hh
    refine wl_store hh (i := 0) (vs := [_, _, _]) rfl rfl rfl rfl TIs.out rfl (by simp) rfl ?_
    intro ws hh
    replace hh : Hp _ (.blk _ _ [_, _, _] _ :: _) _ := hh
    refine wl_end ?_
    refine wc_seq ?_
    refine wc_seq ?_
    refine wc_region ?_
    refine s_load (vs := [_, _, _]) TIs.out rfl (hh.rd_blk_at (i := 0) (n := 3) rfl rfl) rfl (by decide) ?_
    refine s_load (vs := [_, _, _]) TIs.out rfl (hh.rd_blk_at (i := 2) (n := 3) rfl rfl) rfl (by decide) ?_
    -- at some 11 := Op.call { callee := Callee.value (Operand.func 40), args := #[Operand.tmp 9, Operand.tmp 1
    refine s_callf (hpc _) FnIs.out rfl (by decide) ?_
    rintro e_ w11 ⟨rfl, hb_⟩
    refine ⟨_, rfl, ?_⟩
    replace hh := hh.ext hb_
    first | refine s_eql_t rfl rfl (by omega) (by decide) ?_ | refine s_eql_f rfl rfl (by omega) (by decide) ?_ | refine s_eql_v rfl rfl (by decide) ?_
    refine wl_end ?_
    refine wc_cond_f rfl ?_
    refine wc_skip ?_
    refine k_then ?_
    refine wc_seq ?_
    -- at the drawn region 4
    refine wc_drawn 5 [[(5, none)], [], [(1, none)], [(16, some 2)], [(15, some 1), (17, some 3)]] [(4, 18), (3, 17), (2, 16), (1, 15), (0, 14)] hh mixed (by kernel_rfl) ?_
    refine dx_val (i := 0) (fun ρ1 w1 hj hR => x_load (vs := [_, _, _]) TIs.out (show ρ1 5 = Value.pointer _ from hR.1) (hj.hp.rd_blk_at (i := 0) (n := 3) rfl rfl) rfl) ?_
    refine dx_call (i := 1) (fun ρ1 w1 hj hR => run_callf FnIs.out (evs_cons rfl evs_nil)) (fun w1 hj => xOf_calls 1 _ (by omega) (by omega)) ?_
    refine dx_val (i := 2) (fun ρ1 w1 hj hR => x_move (show ρ1 1 = Value.int _ _ from hR.1)) ?_
    refine dx_val (i := 3) (fun ρ1 w1 hj hR => x_negi (show ρ1 16 = Value.int _ _ from hR.1) (by omega) (by omega)) ?_
    refine dx_call (i := 4) (fun ρ1 w1 hj hR => run_callf FnIs.out (evs_cons (show ρ1 15 = Value.agg (List.toArray _) from hR.1) (evs_cons (show ρ1 17 = Value.int _ _ from hR.2.1) evs_nil))) (fun w1 hj => hmk _) ?_
    refine dx_nil ?_
    intro f W hJ hV
    have hb_4 := hJ.bl
    obtain ⟨v18, v17, v16, v15, v14, _⟩ := hV
    simp only [updL]
    have e14 : f 0 = _ := v14
    rw [e14]
    have e15 : f 1 = _ := v15
    rw [e15]
    have e16 : f 2 = _ := v16
    rw [e16]
    have e17 : f 3 = _ := v17
    rw [e17]
    have e18 : f 4 = _ := v18
    rw [e18]
    replace hh := hJ.hp
    clear e14 e15 e16 e17 e18 hJ
    -- at some 19 := Op.call { callee := Callee.value (Operand.func 49), args := #[Operand.tmp 14, Operand.tmp 
    refine s_callf (hpl _) FnIs.out rfl (by decide) ?_
    rintro e_ w19 ⟨rfl, hb_⟩
    refine ⟨_, rfl, ?_⟩
    replace hh := hh.ext hb_
    refine wl_store hh (i := 1) (vs := [_, _, _]) rfl rfl rfl rfl TIs.out rfl (by simp) rfl ?_
    intro ws hh
    replace hh : Hp _ (_ :: .blk _ _ [_, _, _] _ :: _) _ := hh
    refine wl_end ?_
    refine wc_ret ?_
    -- at ('end', 'ret')
    refine retc1 (by first | exact .inr rfl | exact .inl rfl) rfl (r_cell rfl (lv_agg (vs := [_, _, _]) TIs.out (hh.rd_blk_at (i := 1) (n := 3) rfl rfl) rfl) r_nil) ?_
    exact ⟨rfl, hh.below⟩
theorem yMin_calls (L : Option Addr) (n c : Nat) (l : List NR) (w : World) (hS : Sl w L n 3 (recs NR.cells l)) (hl : ∀ a ∈ l, a.ok) (k : Nat) (hk : ∀ a ∈ l, Sz k a.d) (hkn : k ≤ 3000000) (hn : n ≤ 1000000) :
    Calls Tryz.prog 34 #[.slice L n c] w fun r w' => r = .returned (.agg #[.bool (nR (bestD (fun x y => decide (x < y)) (l.map NR.d))).neg, .string (nR (bestD (fun x y => decide (x < y)) (l.map NR.d))).mag, .int .i64 (nR (bestD (fun x y => decide (x < y)) (l.map NR.d))).e]) ∧ Below w.heap.size w w' := by
  have hln := hS.recLen NR.len (by omega)
  have hh := Hp.start w
  refine calls_vc (N := 29) (l := [.slice L n c]) Tryz.func34 rfl rfl (by simp) ?_
  refine wc_seq ?_
  refine wc_region ?_
  refine wl_alloc hh TIs.out (by decide) ?_
  intro b2 w2 hh
  refine wl_end ?_
  refine wc_seq ?_
  refine wc_region ?_
  refine s_build (cs := [_, _, _]) TIs.out PIs.out rfl rfl (by decide) ?_
  refine wl_alloc hh TIs.out (by decide) ?_
  intro b3 w3 hh
  refine wl_store hh (i := 0) (vs := [_, _, _]) rfl rfl rfl rfl TIs.out rfl (by simp) rfl ?_
  intro ws hh
  replace hh : Hp _ (.blk _ _ [_, _, _] _ :: _) _ := hh
  refine wl_end ?_
  refine wc_seq ?_
  refine wc_seq ?_
  refine wc_region ?_
  refine s_assign (ev_int rfl) (by decide) ?_
  refine wl_end ?_
  refine wc_block ?_
  -- at a loop
  refine wc_loop1 [4, 6, 7, 8, 9, 10, 11, 12, 13, 14, 15, 16, 17, 18, 19, 20, 21, 22, 23, 24, 25, 26, 27] 4
    (fun j w' => ∃ (i : Nat) (S : Dyadic), i ≤ n ∧ j = .int .i64 i ∧ S = bestD (fun x y => decide (x < y)) ((l.take i).map NR.d) ∧ Sz k S ∧ Hp w [.blk b3 28 [.bool (nR S).neg, .string (nR S).mag, .int .i64 (nR S).e] (0, 0), .blk b2 28 [.bool false, .string (ByteArray.mk #[]), .int .i64 0] (0, 0)] w')
    (fun j _ => n - (intOf j).toNat) ?_ ?_
  · exact ⟨0, 0, Nat.zero_le _, rfl, rfl, Sz.zero k, hh⟩
  · clear hh
    rintro ρ' j w' ⟨i, S, hi, rfl, hS2, hSz, hh⟩
    -- 
    by_cases hlt : i < n
    · obtain ⟨x, hx⟩ := get_of_lt (l := l) (k := i) (by omega)
      obtain ⟨ad, rfl, hr⟩ := hS.at_ (by omega)
      have hxm := List.mem_of_getElem? hx
      have hxk := hk x hxm
      obtain ⟨xo1, xo2, xo3⟩ := hl x hxm
      have hSo := hSz.ok (by omega)
      have hpc := fun w1 => yCmp_calls x (nR S) w1 (hl x hxm) hSo (by rw [nR_d]; exact hSo) (by rw [nR_d]; have := ((hxk.sub hSz).ok (by omega)).1; omega)
      rw [nR_d] at hpc
      have hS3 : bestD (fun x y => decide (x < y)) ((l.take (i + 1)).map NR.d) = if i = 0 then x.d else if x.d < S then x.d else S := by
        rw [take_snoc hx, List.map_append, List.map_singleton]
        by_cases h0 : i = 0
        · subst h0; rw [if_pos rfl]; rfl
        · rw [if_neg h0, bestD_snoc _ (by intro h; have h5 := congrArg List.length h; rw [List.length_map, List.length_take, List.length_nil] at h5; omega), ← hS2]
          simp
      -- 
      by_cases h0 : i = 0
      · rw [if_pos h0] at hS3
        refine wc_seq ?_
        refine wc_seq ?_
        refine wc_region ?_
        refine s_move (ev_int rfl) (by decide) ?_
        refine s_move (ev_sl rfl) (by decide) ?_
        refine s_len_sl UIs.out rfl (by decide) ?_
        first | refine s_lss_t rfl rfl (by omega) (by decide) ?_ | refine s_lss_f rfl rfl (by omega) (by decide) ?_ | refine s_lss_v rfl rfl (by decide) ?_
        refine wl_end ?_
        refine wc_cond_t rfl ?_
        refine wc_skip ?_
        refine k_then ?_
        refine wc_seq ?_
        refine wc_block ?_
        refine wc_seq ?_
        -- at the drawn region 5
        refine wc_drawn 8 [[(4, none)], [(12, some 0)], [(13, some 1)], [(0, none), (14, some 2)], [(4, none), (14, some 2)], [(15, some 3), (16, some 4), (14, some 2)], [(17, some 5), (14, some 2)], [(3, none), (14, some 2)]] [(7, 19), (6, 18), (5, 17), (4, 16), (3, 15), (2, 14), (1, 13), (0, 12)] hh mixed (by kernel_rfl) ?_
        refine dx_val (i := 0) (fun ρ1 w1 hj hR => x_move (show ρ1 4 = Value.int _ _ from hR.1)) ?_
        first | refine dx_val (i := 1) (fun ρ1 w1 hj hR => x_eql_t (show ρ1 12 = Value.int _ _ from hR.1) rfl (by omega)) ?_ | refine dx_val (i := 1) (fun ρ1 w1 hj hR => x_eql_f (show ρ1 12 = Value.int _ _ from hR.1) rfl (by omega)) ?_ | refine dx_val (i := 1) (fun ρ1 w1 hj hR => x_eql_v (show ρ1 12 = Value.int _ _ from hR.1) rfl) ?_
        refine dx_val (i := 2) (fun ρ1 w1 hj hR => x_move (show ρ1 13 = Value.bool _ from hR.1)) ?_
        first | refine dx_skip (i := 3) rfl (fun ρ1 w1 hj hR => (show ρ1 14 = Value.bool _ from hR.2.1)) (by decide) ?_ | refine dx_take (i := 3) rfl (fun ρ1 w1 hj hR => (show ρ1 14 = Value.bool _ from hR.2.1)) (fun ρ1 w1 hj hR => x_move (show ρ1 0 = Value.slice _ _ _ from hR.1)) ?_
        first | refine dx_skip (i := 4) rfl (fun ρ1 w1 hj hR => (show ρ1 14 = Value.bool _ from hR.2.1)) (by decide) ?_ | refine dx_take (i := 4) rfl (fun ρ1 w1 hj hR => (show ρ1 14 = Value.bool _ from hR.2.1)) (fun ρ1 w1 hj hR => x_move (show ρ1 4 = Value.int _ _ from hR.1)) ?_
        first | refine dx_skip (i := 5) rfl (fun ρ1 w1 hj hR => (show ρ1 14 = Value.bool _ from hR.2.2.1)) (by decide) ?_ | refine dx_take (i := 5) rfl (fun ρ1 w1 hj hR => (show ρ1 14 = Value.bool _ from hR.2.2.1)) (fun ρ1 w1 hj hR => x_indexSl (k := i) UIs.out TIs.size (show ρ1 15 = Value.slice _ _ _ from hR.1) (show ρ1 16 = Value.int _ _ from hR.2.1) (by omega) (by omega)) ?_
        first | refine dx_skip (i := 6) rfl (fun ρ1 w1 hj hR => (show ρ1 14 = Value.bool _ from hR.2.1)) (by decide) ?_ | refine dx_take (i := 6) rfl (fun ρ1 w1 hj hR => (show ρ1 14 = Value.bool _ from hR.2.1)) (fun ρ1 w1 hj hR => x_load (vs := [_, _, _]) TIs.out (show ρ1 17 = Value.pointer _ from hR.1) ((hr.ext hj.hp.below).recAt NR.len hx) rfl) ?_
        first | refine dx_skip (i := 7) rfl (fun ρ1 w1 hj hR => (show ρ1 14 = Value.bool _ from hR.2.1)) (by decide) ?_ | refine dx_take (i := 7) rfl (fun ρ1 w1 hj hR => (show ρ1 14 = Value.bool _ from hR.2.1)) (fun ρ1 w1 hj hR => x_load (vs := [_, _, _]) TIs.out (show ρ1 3 = Value.pointer _ from hR.1) (hj.hp.rd_blk_at (i := 0) (n := 3) rfl rfl) rfl) ?_
        refine dx_nil ?_
        intro f W hJ hV
        have hb_5 := hJ.bl
        obtain ⟨v19, v18, v17, v16, v15, v14, v13, v12, _⟩ := hV
        simp only [updL]
        have e12 : f 0 = _ := v12
        rw [e12]
        have e13 : f 1 = _ := v13
        rw [e13]
        have e14 : f 2 = _ := v14
        rw [e14]
        have e15 : f 3 = _ := v15
        rw [e15]
        have e16 : f 4 = _ := v16
        rw [e16]
        have e17 : f 5 = _ := v17
        rw [e17]
        have e18 : f 6 = _ := v18
        rw [e18]
        have e19 : f 7 = _ := v19
        rw [e19]
        replace hh := hJ.hp
        clear e12 e13 e14 e15 e16 e17 e18 e19 hJ
        refine wl_guard_skip (by decide) rfl rfl (by decide) ?_
        first | (refine wl_guard_skip (by decide) rfl rfl (by decide) ?_) | (refine wl_guard_take rfl rfl ?_; (first | refine s_lss_t rfl rfl (by omega) (by decide) ?_ | refine s_lss_f rfl rfl (by omega) (by decide) ?_ | refine s_lss_v rfl rfl (by decide) ?_)) | (refine wl_guard_skipV (by decide) rfl rfl ?_)
        first | refine s_pick_t rfl (ev_bool rfl) (by decide) ?_ | refine s_pick_f rfl (ev_bool rfl) (by decide) ?_
        refine wl_end ?_
        refine wc_cond_t rfl ?_
        refine wc_region ?_
        refine s_move (ev_sl rfl) (by decide) ?_
        refine s_move (ev_int rfl) (by decide) ?_
        refine s_indexSl (k := i) UIs.out TIs.size rfl rfl (by omega) (by omega) (by decide) ?_
        -- at some 26
        refine s_load (vs := [_, _, _]) TIs.out rfl ((hr.ext hh.below).recAt NR.len hx) rfl (by decide) ?_
        -- at some 27 := Op.call { callee := Callee.value (Operand.func 18), args := #[Operand.tmp 26], argTypes :=
        refine s_callf (yForm_calls x _ (by omega) (by omega) (by omega)) FnIs.out rfl (by decide) ?_
        rintro e_ w27 ⟨rfl, hb_⟩
        refine ⟨_, rfl, ?_⟩
        replace hh := hh.ext hb_
        refine wl_store hh (i := 0) (vs := [_, _, _]) rfl rfl rfl rfl TIs.out rfl (by simp) rfl ?_
        intro ws hh
        replace hh : Hp _ (.blk _ _ [_, _, _] _ :: _) _ := hh
        refine wl_nil ?_
        refine b_norm ?_
        refine k_then ?_
        refine wc_region ?_
        refine s_move (ev_int rfl) (by decide) ?_
        refine s_addi rfl rfl (by omega) (by omega) (by decide) ?_
        refine s_assign (ev_int rfl) (by decide) ?_
        refine wl_nil ?_
        refine k_then ?_
        -- at ('round',)
        refine ⟨⟨i + 1, _, by omega, rfl, hS3.symm, hxk, hh⟩, by show n - (i + 1) < n - i; omega, ?_⟩
        (repeat (first | exact agree_mask _ _ _ | refine agree_upd rfl ?_ | refine agree_mask2 rfl ?_))
      · rw [if_neg h0] at hS3
        by_cases hc : cmpD x.d S < 0
        · rw [if_pos ((cmpD_lt _ _).1 hc)] at hS3
          refine wc_seq ?_
          refine wc_seq ?_
          refine wc_region ?_
          refine s_move (ev_int rfl) (by decide) ?_
          refine s_move (ev_sl rfl) (by decide) ?_
          refine s_len_sl UIs.out rfl (by decide) ?_
          first | refine s_lss_t rfl rfl (by omega) (by decide) ?_ | refine s_lss_f rfl rfl (by omega) (by decide) ?_ | refine s_lss_v rfl rfl (by decide) ?_
          refine wl_end ?_
          refine wc_cond_t rfl ?_
          refine wc_skip ?_
          refine k_then ?_
          refine wc_seq ?_
          refine wc_block ?_
          refine wc_seq ?_
          -- at the drawn region 5
          refine wc_drawn 8 [[(4, none)], [(12, some 0)], [(13, some 1)], [(0, none), (14, some 2)], [(4, none), (14, some 2)], [(15, some 3), (16, some 4), (14, some 2)], [(17, some 5), (14, some 2)], [(3, none), (14, some 2)]] [(7, 19), (6, 18), (5, 17), (4, 16), (3, 15), (2, 14), (1, 13), (0, 12)] hh mixed (by kernel_rfl) ?_
          refine dx_val (i := 0) (fun ρ1 w1 hj hR => x_move (show ρ1 4 = Value.int _ _ from hR.1)) ?_
          first | refine dx_val (i := 1) (fun ρ1 w1 hj hR => x_eql_t (show ρ1 12 = Value.int _ _ from hR.1) rfl (by omega)) ?_ | refine dx_val (i := 1) (fun ρ1 w1 hj hR => x_eql_f (show ρ1 12 = Value.int _ _ from hR.1) rfl (by omega)) ?_ | refine dx_val (i := 1) (fun ρ1 w1 hj hR => x_eql_v (show ρ1 12 = Value.int _ _ from hR.1) rfl) ?_
          refine dx_val (i := 2) (fun ρ1 w1 hj hR => x_move (show ρ1 13 = Value.bool _ from hR.1)) ?_
          first | refine dx_skip (i := 3) rfl (fun ρ1 w1 hj hR => (show ρ1 14 = Value.bool _ from hR.2.1)) (by decide) ?_ | refine dx_take (i := 3) rfl (fun ρ1 w1 hj hR => (show ρ1 14 = Value.bool _ from hR.2.1)) (fun ρ1 w1 hj hR => x_move (show ρ1 0 = Value.slice _ _ _ from hR.1)) ?_
          first | refine dx_skip (i := 4) rfl (fun ρ1 w1 hj hR => (show ρ1 14 = Value.bool _ from hR.2.1)) (by decide) ?_ | refine dx_take (i := 4) rfl (fun ρ1 w1 hj hR => (show ρ1 14 = Value.bool _ from hR.2.1)) (fun ρ1 w1 hj hR => x_move (show ρ1 4 = Value.int _ _ from hR.1)) ?_
          first | refine dx_skip (i := 5) rfl (fun ρ1 w1 hj hR => (show ρ1 14 = Value.bool _ from hR.2.2.1)) (by decide) ?_ | refine dx_take (i := 5) rfl (fun ρ1 w1 hj hR => (show ρ1 14 = Value.bool _ from hR.2.2.1)) (fun ρ1 w1 hj hR => x_indexSl (k := i) UIs.out TIs.size (show ρ1 15 = Value.slice _ _ _ from hR.1) (show ρ1 16 = Value.int _ _ from hR.2.1) (by omega) (by omega)) ?_
          first | refine dx_skip (i := 6) rfl (fun ρ1 w1 hj hR => (show ρ1 14 = Value.bool _ from hR.2.1)) (by decide) ?_ | refine dx_take (i := 6) rfl (fun ρ1 w1 hj hR => (show ρ1 14 = Value.bool _ from hR.2.1)) (fun ρ1 w1 hj hR => x_load (vs := [_, _, _]) TIs.out (show ρ1 17 = Value.pointer _ from hR.1) ((hr.ext hj.hp.below).recAt NR.len hx) rfl) ?_
          first | refine dx_skip (i := 7) rfl (fun ρ1 w1 hj hR => (show ρ1 14 = Value.bool _ from hR.2.1)) (by decide) ?_ | refine dx_take (i := 7) rfl (fun ρ1 w1 hj hR => (show ρ1 14 = Value.bool _ from hR.2.1)) (fun ρ1 w1 hj hR => x_load (vs := [_, _, _]) TIs.out (show ρ1 3 = Value.pointer _ from hR.1) (hj.hp.rd_blk_at (i := 0) (n := 3) rfl rfl) rfl) ?_
          refine dx_nil ?_
          intro f W hJ hV
          have hb_5 := hJ.bl
          obtain ⟨v19, v18, v17, v16, v15, v14, v13, v12, _⟩ := hV
          simp only [updL]
          have e12 : f 0 = _ := v12
          rw [e12]
          have e13 : f 1 = _ := v13
          rw [e13]
          have e14 : f 2 = _ := v14
          rw [e14]
          have e15 : f 3 = _ := v15
          rw [e15]
          have e16 : f 4 = _ := v16
          rw [e16]
          have e17 : f 5 = _ := v17
          rw [e17]
          have e18 : f 6 = _ := v18
          rw [e18]
          have e19 : f 7 = _ := v19
          rw [e19]
          replace hh := hJ.hp
          clear e12 e13 e14 e15 e16 e17 e18 e19 hJ
          -- at guarded Op.call { callee := Callee.value (Operand.func 40), args := #[Operand.tmp 18, Op
          refine wl_guard_take rfl rfl ?_
          refine s_callf (hpc _) FnIs.out rfl (by decide) ?_
          rintro e_ w20 ⟨rfl, hb_⟩
          refine ⟨_, rfl, ?_⟩
          replace hh := hh.ext hb_
          first | (refine wl_guard_skip (by decide) rfl rfl (by decide) ?_) | (refine wl_guard_take rfl rfl ?_; (first | refine s_lss_t rfl rfl (by omega) (by decide) ?_ | refine s_lss_f rfl rfl (by omega) (by decide) ?_ | refine s_lss_v rfl rfl (by decide) ?_)) | (refine wl_guard_skipV (by decide) rfl rfl ?_)
          first | refine s_pick_t rfl (ev_bool rfl) (by decide) ?_ | refine s_pick_f rfl (ev_bool rfl) (by decide) ?_
          refine wl_end ?_
          refine wc_cond_t rfl ?_
          refine wc_region ?_
          refine s_move (ev_sl rfl) (by decide) ?_
          refine s_move (ev_int rfl) (by decide) ?_
          refine s_indexSl (k := i) UIs.out TIs.size rfl rfl (by omega) (by omega) (by decide) ?_
          -- at some 26
          refine s_load (vs := [_, _, _]) TIs.out rfl ((hr.ext hh.below).recAt NR.len hx) rfl (by decide) ?_
          -- at some 27 := Op.call { callee := Callee.value (Operand.func 18), args := #[Operand.tmp 26], argTypes :=
          refine s_callf (yForm_calls x _ (by omega) (by omega) (by omega)) FnIs.out rfl (by decide) ?_
          rintro e_ w27 ⟨rfl, hb_⟩
          refine ⟨_, rfl, ?_⟩
          replace hh := hh.ext hb_
          refine wl_store hh (i := 0) (vs := [_, _, _]) rfl rfl rfl rfl TIs.out rfl (by simp) rfl ?_
          intro ws hh
          replace hh : Hp _ (.blk _ _ [_, _, _] _ :: _) _ := hh
          refine wl_nil ?_
          refine b_norm ?_
          refine k_then ?_
          refine wc_region ?_
          refine s_move (ev_int rfl) (by decide) ?_
          refine s_addi rfl rfl (by omega) (by omega) (by decide) ?_
          refine s_assign (ev_int rfl) (by decide) ?_
          refine wl_nil ?_
          refine k_then ?_
          -- at ('round',)
          refine ⟨⟨i + 1, _, by omega, rfl, hS3.symm, hxk, hh⟩, by show n - (i + 1) < n - i; omega, ?_⟩
          (repeat (first | exact agree_mask _ _ _ | refine agree_upd rfl ?_ | refine agree_mask2 rfl ?_))
        · rw [if_neg (fun h => hc ((cmpD_lt _ _).2 h))] at hS3
          refine wc_seq ?_
          refine wc_seq ?_
          refine wc_region ?_
          refine s_move (ev_int rfl) (by decide) ?_
          refine s_move (ev_sl rfl) (by decide) ?_
          refine s_len_sl UIs.out rfl (by decide) ?_
          first | refine s_lss_t rfl rfl (by omega) (by decide) ?_ | refine s_lss_f rfl rfl (by omega) (by decide) ?_ | refine s_lss_v rfl rfl (by decide) ?_
          refine wl_end ?_
          refine wc_cond_t rfl ?_
          refine wc_skip ?_
          refine k_then ?_
          refine wc_seq ?_
          refine wc_block ?_
          refine wc_seq ?_
          -- at the drawn region 5
          refine wc_drawn 8 [[(4, none)], [(12, some 0)], [(13, some 1)], [(0, none), (14, some 2)], [(4, none), (14, some 2)], [(15, some 3), (16, some 4), (14, some 2)], [(17, some 5), (14, some 2)], [(3, none), (14, some 2)]] [(7, 19), (6, 18), (5, 17), (4, 16), (3, 15), (2, 14), (1, 13), (0, 12)] hh mixed (by kernel_rfl) ?_
          refine dx_val (i := 0) (fun ρ1 w1 hj hR => x_move (show ρ1 4 = Value.int _ _ from hR.1)) ?_
          first | refine dx_val (i := 1) (fun ρ1 w1 hj hR => x_eql_t (show ρ1 12 = Value.int _ _ from hR.1) rfl (by omega)) ?_ | refine dx_val (i := 1) (fun ρ1 w1 hj hR => x_eql_f (show ρ1 12 = Value.int _ _ from hR.1) rfl (by omega)) ?_ | refine dx_val (i := 1) (fun ρ1 w1 hj hR => x_eql_v (show ρ1 12 = Value.int _ _ from hR.1) rfl) ?_
          refine dx_val (i := 2) (fun ρ1 w1 hj hR => x_move (show ρ1 13 = Value.bool _ from hR.1)) ?_
          first | refine dx_skip (i := 3) rfl (fun ρ1 w1 hj hR => (show ρ1 14 = Value.bool _ from hR.2.1)) (by decide) ?_ | refine dx_take (i := 3) rfl (fun ρ1 w1 hj hR => (show ρ1 14 = Value.bool _ from hR.2.1)) (fun ρ1 w1 hj hR => x_move (show ρ1 0 = Value.slice _ _ _ from hR.1)) ?_
          first | refine dx_skip (i := 4) rfl (fun ρ1 w1 hj hR => (show ρ1 14 = Value.bool _ from hR.2.1)) (by decide) ?_ | refine dx_take (i := 4) rfl (fun ρ1 w1 hj hR => (show ρ1 14 = Value.bool _ from hR.2.1)) (fun ρ1 w1 hj hR => x_move (show ρ1 4 = Value.int _ _ from hR.1)) ?_
          first | refine dx_skip (i := 5) rfl (fun ρ1 w1 hj hR => (show ρ1 14 = Value.bool _ from hR.2.2.1)) (by decide) ?_ | refine dx_take (i := 5) rfl (fun ρ1 w1 hj hR => (show ρ1 14 = Value.bool _ from hR.2.2.1)) (fun ρ1 w1 hj hR => x_indexSl (k := i) UIs.out TIs.size (show ρ1 15 = Value.slice _ _ _ from hR.1) (show ρ1 16 = Value.int _ _ from hR.2.1) (by omega) (by omega)) ?_
          first | refine dx_skip (i := 6) rfl (fun ρ1 w1 hj hR => (show ρ1 14 = Value.bool _ from hR.2.1)) (by decide) ?_ | refine dx_take (i := 6) rfl (fun ρ1 w1 hj hR => (show ρ1 14 = Value.bool _ from hR.2.1)) (fun ρ1 w1 hj hR => x_load (vs := [_, _, _]) TIs.out (show ρ1 17 = Value.pointer _ from hR.1) ((hr.ext hj.hp.below).recAt NR.len hx) rfl) ?_
          first | refine dx_skip (i := 7) rfl (fun ρ1 w1 hj hR => (show ρ1 14 = Value.bool _ from hR.2.1)) (by decide) ?_ | refine dx_take (i := 7) rfl (fun ρ1 w1 hj hR => (show ρ1 14 = Value.bool _ from hR.2.1)) (fun ρ1 w1 hj hR => x_load (vs := [_, _, _]) TIs.out (show ρ1 3 = Value.pointer _ from hR.1) (hj.hp.rd_blk_at (i := 0) (n := 3) rfl rfl) rfl) ?_
          refine dx_nil ?_
          intro f W hJ hV
          have hb_5 := hJ.bl
          obtain ⟨v19, v18, v17, v16, v15, v14, v13, v12, _⟩ := hV
          simp only [updL]
          have e12 : f 0 = _ := v12
          rw [e12]
          have e13 : f 1 = _ := v13
          rw [e13]
          have e14 : f 2 = _ := v14
          rw [e14]
          have e15 : f 3 = _ := v15
          rw [e15]
          have e16 : f 4 = _ := v16
          rw [e16]
          have e17 : f 5 = _ := v17
          rw [e17]
          have e18 : f 6 = _ := v18
          rw [e18]
          have e19 : f 7 = _ := v19
          rw [e19]
          replace hh := hJ.hp
          clear e12 e13 e14 e15 e16 e17 e18 e19 hJ
          -- at guarded Op.call { callee := Callee.value (Operand.func 40), args := #[Operand.tmp 18, Op
          refine wl_guard_take rfl rfl ?_
          refine s_callf (hpc _) FnIs.out rfl (by decide) ?_
          rintro e_ w20 ⟨rfl, hb_⟩
          refine ⟨_, rfl, ?_⟩
          replace hh := hh.ext hb_
          first | (refine wl_guard_skip (by decide) rfl rfl (by decide) ?_) | (refine wl_guard_take rfl rfl ?_; (first | refine s_lss_t rfl rfl (by omega) (by decide) ?_ | refine s_lss_f rfl rfl (by omega) (by decide) ?_ | refine s_lss_v rfl rfl (by decide) ?_)) | (refine wl_guard_skipV (by decide) rfl rfl ?_)
          first | refine s_pick_t rfl (ev_bool rfl) (by decide) ?_ | refine s_pick_f rfl (ev_bool rfl) (by decide) ?_
          refine wl_end ?_
          refine wc_cond_f rfl ?_
          refine wc_skip ?_
          refine b_norm ?_
          refine k_then ?_
          refine wc_region ?_
          refine s_move (ev_int rfl) (by decide) ?_
          refine s_addi rfl rfl (by omega) (by omega) (by decide) ?_
          refine s_assign (ev_int rfl) (by decide) ?_
          refine wl_nil ?_
          refine k_then ?_
          -- at ('round',)
          refine ⟨⟨i + 1, _, by omega, rfl, hS3.symm, hSz, hh⟩, by show n - (i + 1) < n - i; omega, ?_⟩
          (repeat (first | exact agree_mask _ _ _ | refine agree_upd rfl ?_ | refine agree_mask2 rfl ?_))
    · refine wc_seq ?_
      refine wc_seq ?_
      refine wc_region ?_
      refine s_move (ev_int rfl) (by decide) ?_
      refine s_move (ev_sl rfl) (by decide) ?_
      refine s_len_sl UIs.out rfl (by decide) ?_
      first | refine s_lss_t rfl rfl (by omega) (by decide) ?_ | refine s_lss_f rfl rfl (by omega) (by decide) ?_ | refine s_lss_v rfl rfl (by decide) ?_
      refine wl_end ?_
      refine wc_cond_f rfl ?_
      refine wc_exit ?_
      refine k_exit ?_
      refine k_exit ?_
      refine b_here ?_
      refine k_then ?_
      refine wc_seq ?_
      refine wc_region ?_
      refine s_load (vs := [_, _, _]) TIs.out rfl (hh.rd_blk_at (i := 0) (n := 3) rfl rfl) rfl (by decide) ?_
      refine wl_store hh (i := 1) (vs := [_, _, _]) rfl rfl rfl rfl TIs.out rfl (by simp) rfl ?_
      intro ws hh
      replace hh : Hp _ (_ :: .blk _ _ [_, _, _] _ :: _) _ := hh
      refine wl_end ?_
      refine wc_ret ?_
      -- at ('end', 'ret')
      refine retc1 (by first | exact .inr rfl | exact .inl rfl) rfl (r_cell rfl (lv_agg (vs := [_, _, _]) TIs.out (hh.rd_blk_at (i := 1) (n := 3) rfl rfl) rfl) r_nil) ?_
      rw [List.take_of_length_le (by omega)] at hS2
      rw [hS2]
      exact ⟨rfl, hh.below⟩
theorem yMax_calls (L : Option Addr) (n c : Nat) (l : List NR) (w : World) (hS : Sl w L n 3 (recs NR.cells l)) (hl : ∀ a ∈ l, a.ok) (k : Nat) (hk : ∀ a ∈ l, Sz k a.d) (hkn : k ≤ 3000000) (hn : n ≤ 1000000) :
    Calls Tryz.prog 36 #[.slice L n c] w fun r w' => r = .returned (.agg #[.bool (nR (bestD (fun x y => decide (y < x)) (l.map NR.d))).neg, .string (nR (bestD (fun x y => decide (y < x)) (l.map NR.d))).mag, .int .i64 (nR (bestD (fun x y => decide (y < x)) (l.map NR.d))).e]) ∧ Below w.heap.size w w' := by
  have hln := hS.recLen NR.len (by omega)
  have hh := Hp.start w
  refine calls_vc (N := 29) (l := [.slice L n c]) Tryz.func36 rfl rfl (by simp) ?_
  refine wc_seq ?_
  refine wc_region ?_
  refine wl_alloc hh TIs.out (by decide) ?_
  intro b2 w2 hh
  refine wl_end ?_
  refine wc_seq ?_
  refine wc_region ?_
  refine s_build (cs := [_, _, _]) TIs.out PIs.out rfl rfl (by decide) ?_
  refine wl_alloc hh TIs.out (by decide) ?_
  intro b3 w3 hh
  refine wl_store hh (i := 0) (vs := [_, _, _]) rfl rfl rfl rfl TIs.out rfl (by simp) rfl ?_
  intro ws hh
  replace hh : Hp _ (.blk _ _ [_, _, _] _ :: _) _ := hh
  refine wl_end ?_
  refine wc_seq ?_
  refine wc_seq ?_
  refine wc_region ?_
  refine s_assign (ev_int rfl) (by decide) ?_
  refine wl_end ?_
  refine wc_block ?_
  -- at a loop
  refine wc_loop1 [4, 6, 7, 8, 9, 10, 11, 12, 13, 14, 15, 16, 17, 18, 19, 20, 21, 22, 23, 24, 25, 26, 27] 4
    (fun j w' => ∃ (i : Nat) (S : Dyadic), i ≤ n ∧ j = .int .i64 i ∧ S = bestD (fun x y => decide (y < x)) ((l.take i).map NR.d) ∧ Sz k S ∧ Hp w [.blk b3 28 [.bool (nR S).neg, .string (nR S).mag, .int .i64 (nR S).e] (0, 0), .blk b2 28 [.bool false, .string (ByteArray.mk #[]), .int .i64 0] (0, 0)] w')
    (fun j _ => n - (intOf j).toNat) ?_ ?_
  · exact ⟨0, 0, Nat.zero_le _, rfl, rfl, Sz.zero k, hh⟩
  · clear hh
    rintro ρ' j w' ⟨i, S, hi, rfl, hS2, hSz, hh⟩
    -- 
    by_cases hlt : i < n
    · obtain ⟨x, hx⟩ := get_of_lt (l := l) (k := i) (by omega)
      obtain ⟨ad, rfl, hr⟩ := hS.at_ (by omega)
      have hxm := List.mem_of_getElem? hx
      have hxk := hk x hxm
      obtain ⟨xo1, xo2, xo3⟩ := hl x hxm
      have hSo := hSz.ok (by omega)
      have hpc := fun w1 => yCmp_calls x (nR S) w1 (hl x hxm) hSo (by rw [nR_d]; exact hSo) (by rw [nR_d]; have := ((hxk.sub hSz).ok (by omega)).1; omega)
      rw [nR_d] at hpc
      have hS3 : bestD (fun x y => decide (y < x)) ((l.take (i + 1)).map NR.d) = if i = 0 then x.d else if S < x.d then x.d else S := by
        rw [take_snoc hx, List.map_append, List.map_singleton]
        by_cases h0 : i = 0
        · subst h0; rw [if_pos rfl]; rfl
        · rw [if_neg h0, bestD_snoc _ (by intro h; have h5 := congrArg List.length h; rw [List.length_map, List.length_take, List.length_nil] at h5; omega), ← hS2]
          simp
      -- 
      by_cases h0 : i = 0
      · rw [if_pos h0] at hS3
        refine wc_seq ?_
        refine wc_seq ?_
        refine wc_region ?_
        refine s_move (ev_int rfl) (by decide) ?_
        refine s_move (ev_sl rfl) (by decide) ?_
        refine s_len_sl UIs.out rfl (by decide) ?_
        first | refine s_lss_t rfl rfl (by omega) (by decide) ?_ | refine s_lss_f rfl rfl (by omega) (by decide) ?_ | refine s_lss_v rfl rfl (by decide) ?_
        refine wl_end ?_
        refine wc_cond_t rfl ?_
        refine wc_skip ?_
        refine k_then ?_
        refine wc_seq ?_
        refine wc_block ?_
        refine wc_seq ?_
        -- at the drawn region 5
        refine wc_drawn 8 [[(4, none)], [(12, some 0)], [(13, some 1)], [(0, none), (14, some 2)], [(4, none), (14, some 2)], [(15, some 3), (16, some 4), (14, some 2)], [(17, some 5), (14, some 2)], [(3, none), (14, some 2)]] [(7, 19), (6, 18), (5, 17), (4, 16), (3, 15), (2, 14), (1, 13), (0, 12)] hh mixed (by kernel_rfl) ?_
        refine dx_val (i := 0) (fun ρ1 w1 hj hR => x_move (show ρ1 4 = Value.int _ _ from hR.1)) ?_
        first | refine dx_val (i := 1) (fun ρ1 w1 hj hR => x_eql_t (show ρ1 12 = Value.int _ _ from hR.1) rfl (by omega)) ?_ | refine dx_val (i := 1) (fun ρ1 w1 hj hR => x_eql_f (show ρ1 12 = Value.int _ _ from hR.1) rfl (by omega)) ?_ | refine dx_val (i := 1) (fun ρ1 w1 hj hR => x_eql_v (show ρ1 12 = Value.int _ _ from hR.1) rfl) ?_
        refine dx_val (i := 2) (fun ρ1 w1 hj hR => x_move (show ρ1 13 = Value.bool _ from hR.1)) ?_
        first | refine dx_skip (i := 3) rfl (fun ρ1 w1 hj hR => (show ρ1 14 = Value.bool _ from hR.2.1)) (by decide) ?_ | refine dx_take (i := 3) rfl (fun ρ1 w1 hj hR => (show ρ1 14 = Value.bool _ from hR.2.1)) (fun ρ1 w1 hj hR => x_move (show ρ1 0 = Value.slice _ _ _ from hR.1)) ?_
        first | refine dx_skip (i := 4) rfl (fun ρ1 w1 hj hR => (show ρ1 14 = Value.bool _ from hR.2.1)) (by decide) ?_ | refine dx_take (i := 4) rfl (fun ρ1 w1 hj hR => (show ρ1 14 = Value.bool _ from hR.2.1)) (fun ρ1 w1 hj hR => x_move (show ρ1 4 = Value.int _ _ from hR.1)) ?_
        first | refine dx_skip (i := 5) rfl (fun ρ1 w1 hj hR => (show ρ1 14 = Value.bool _ from hR.2.2.1)) (by decide) ?_ | refine dx_take (i := 5) rfl (fun ρ1 w1 hj hR => (show ρ1 14 = Value.bool _ from hR.2.2.1)) (fun ρ1 w1 hj hR => x_indexSl (k := i) UIs.out TIs.size (show ρ1 15 = Value.slice _ _ _ from hR.1) (show ρ1 16 = Value.int _ _ from hR.2.1) (by omega) (by omega)) ?_
        first | refine dx_skip (i := 6) rfl (fun ρ1 w1 hj hR => (show ρ1 14 = Value.bool _ from hR.2.1)) (by decide) ?_ | refine dx_take (i := 6) rfl (fun ρ1 w1 hj hR => (show ρ1 14 = Value.bool _ from hR.2.1)) (fun ρ1 w1 hj hR => x_load (vs := [_, _, _]) TIs.out (show ρ1 17 = Value.pointer _ from hR.1) ((hr.ext hj.hp.below).recAt NR.len hx) rfl) ?_
        first | refine dx_skip (i := 7) rfl (fun ρ1 w1 hj hR => (show ρ1 14 = Value.bool _ from hR.2.1)) (by decide) ?_ | refine dx_take (i := 7) rfl (fun ρ1 w1 hj hR => (show ρ1 14 = Value.bool _ from hR.2.1)) (fun ρ1 w1 hj hR => x_load (vs := [_, _, _]) TIs.out (show ρ1 3 = Value.pointer _ from hR.1) (hj.hp.rd_blk_at (i := 0) (n := 3) rfl rfl) rfl) ?_
        refine dx_nil ?_
        intro f W hJ hV
        have hb_5 := hJ.bl
        obtain ⟨v19, v18, v17, v16, v15, v14, v13, v12, _⟩ := hV
        simp only [updL]
        have e12 : f 0 = _ := v12
        rw [e12]
        have e13 : f 1 = _ := v13
        rw [e13]
        have e14 : f 2 = _ := v14
        rw [e14]
        have e15 : f 3 = _ := v15
        rw [e15]
        have e16 : f 4 = _ := v16
        rw [e16]
        have e17 : f 5 = _ := v17
        rw [e17]
        have e18 : f 6 = _ := v18
        rw [e18]
        have e19 : f 7 = _ := v19
        rw [e19]
        replace hh := hJ.hp
        clear e12 e13 e14 e15 e16 e17 e18 e19 hJ
        refine wl_guard_skip (by decide) rfl rfl (by decide) ?_
        first | (refine wl_guard_skip (by decide) rfl rfl (by decide) ?_) | (refine wl_guard_take rfl rfl ?_; (first | refine s_gtr_t rfl rfl (by omega) (by decide) ?_ | refine s_gtr_f rfl rfl (by omega) (by decide) ?_ | refine s_gtr_v rfl rfl (by decide) ?_)) | (refine wl_guard_skipV (by decide) rfl rfl ?_)
        first | refine s_pick_t rfl (ev_bool rfl) (by decide) ?_ | refine s_pick_f rfl (ev_bool rfl) (by decide) ?_
        refine wl_end ?_
        refine wc_cond_t rfl ?_
        refine wc_region ?_
        refine s_move (ev_sl rfl) (by decide) ?_
        refine s_move (ev_int rfl) (by decide) ?_
        refine s_indexSl (k := i) UIs.out TIs.size rfl rfl (by omega) (by omega) (by decide) ?_
        -- at some 26
        refine s_load (vs := [_, _, _]) TIs.out rfl ((hr.ext hh.below).recAt NR.len hx) rfl (by decide) ?_
        -- at some 27 := Op.call { callee := Callee.value (Operand.func 18), args := #[Operand.tmp 26], argTypes :=
        refine s_callf (yForm_calls x _ (by omega) (by omega) (by omega)) FnIs.out rfl (by decide) ?_
        rintro e_ w27 ⟨rfl, hb_⟩
        refine ⟨_, rfl, ?_⟩
        replace hh := hh.ext hb_
        refine wl_store hh (i := 0) (vs := [_, _, _]) rfl rfl rfl rfl TIs.out rfl (by simp) rfl ?_
        intro ws hh
        replace hh : Hp _ (.blk _ _ [_, _, _] _ :: _) _ := hh
        refine wl_nil ?_
        refine b_norm ?_
        refine k_then ?_
        refine wc_region ?_
        refine s_move (ev_int rfl) (by decide) ?_
        refine s_addi rfl rfl (by omega) (by omega) (by decide) ?_
        refine s_assign (ev_int rfl) (by decide) ?_
        refine wl_nil ?_
        refine k_then ?_
        -- at ('round',)
        refine ⟨⟨i + 1, _, by omega, rfl, hS3.symm, hxk, hh⟩, by show n - (i + 1) < n - i; omega, ?_⟩
        (repeat (first | exact agree_mask _ _ _ | refine agree_upd rfl ?_ | refine agree_mask2 rfl ?_))
      · rw [if_neg h0] at hS3
        by_cases hc : 0 < cmpD x.d S
        · rw [if_pos ((cmpD_gt _ _).1 hc)] at hS3
          refine wc_seq ?_
          refine wc_seq ?_
          refine wc_region ?_
          refine s_move (ev_int rfl) (by decide) ?_
          refine s_move (ev_sl rfl) (by decide) ?_
          refine s_len_sl UIs.out rfl (by decide) ?_
          first | refine s_lss_t rfl rfl (by omega) (by decide) ?_ | refine s_lss_f rfl rfl (by omega) (by decide) ?_ | refine s_lss_v rfl rfl (by decide) ?_
          refine wl_end ?_
          refine wc_cond_t rfl ?_
          refine wc_skip ?_
          refine k_then ?_
          refine wc_seq ?_
          refine wc_block ?_
          refine wc_seq ?_
          -- at the drawn region 5
          refine wc_drawn 8 [[(4, none)], [(12, some 0)], [(13, some 1)], [(0, none), (14, some 2)], [(4, none), (14, some 2)], [(15, some 3), (16, some 4), (14, some 2)], [(17, some 5), (14, some 2)], [(3, none), (14, some 2)]] [(7, 19), (6, 18), (5, 17), (4, 16), (3, 15), (2, 14), (1, 13), (0, 12)] hh mixed (by kernel_rfl) ?_
          refine dx_val (i := 0) (fun ρ1 w1 hj hR => x_move (show ρ1 4 = Value.int _ _ from hR.1)) ?_
          first | refine dx_val (i := 1) (fun ρ1 w1 hj hR => x_eql_t (show ρ1 12 = Value.int _ _ from hR.1) rfl (by omega)) ?_ | refine dx_val (i := 1) (fun ρ1 w1 hj hR => x_eql_f (show ρ1 12 = Value.int _ _ from hR.1) rfl (by omega)) ?_ | refine dx_val (i := 1) (fun ρ1 w1 hj hR => x_eql_v (show ρ1 12 = Value.int _ _ from hR.1) rfl) ?_
          refine dx_val (i := 2) (fun ρ1 w1 hj hR => x_move (show ρ1 13 = Value.bool _ from hR.1)) ?_
          first | refine dx_skip (i := 3) rfl (fun ρ1 w1 hj hR => (show ρ1 14 = Value.bool _ from hR.2.1)) (by decide) ?_ | refine dx_take (i := 3) rfl (fun ρ1 w1 hj hR => (show ρ1 14 = Value.bool _ from hR.2.1)) (fun ρ1 w1 hj hR => x_move (show ρ1 0 = Value.slice _ _ _ from hR.1)) ?_
          first | refine dx_skip (i := 4) rfl (fun ρ1 w1 hj hR => (show ρ1 14 = Value.bool _ from hR.2.1)) (by decide) ?_ | refine dx_take (i := 4) rfl (fun ρ1 w1 hj hR => (show ρ1 14 = Value.bool _ from hR.2.1)) (fun ρ1 w1 hj hR => x_move (show ρ1 4 = Value.int _ _ from hR.1)) ?_
          first | refine dx_skip (i := 5) rfl (fun ρ1 w1 hj hR => (show ρ1 14 = Value.bool _ from hR.2.2.1)) (by decide) ?_ | refine dx_take (i := 5) rfl (fun ρ1 w1 hj hR => (show ρ1 14 = Value.bool _ from hR.2.2.1)) (fun ρ1 w1 hj hR => x_indexSl (k := i) UIs.out TIs.size (show ρ1 15 = Value.slice _ _ _ from hR.1) (show ρ1 16 = Value.int _ _ from hR.2.1) (by omega) (by omega)) ?_
          first | refine dx_skip (i := 6) rfl (fun ρ1 w1 hj hR => (show ρ1 14 = Value.bool _ from hR.2.1)) (by decide) ?_ | refine dx_take (i := 6) rfl (fun ρ1 w1 hj hR => (show ρ1 14 = Value.bool _ from hR.2.1)) (fun ρ1 w1 hj hR => x_load (vs := [_, _, _]) TIs.out (show ρ1 17 = Value.pointer _ from hR.1) ((hr.ext hj.hp.below).recAt NR.len hx) rfl) ?_
          first | refine dx_skip (i := 7) rfl (fun ρ1 w1 hj hR => (show ρ1 14 = Value.bool _ from hR.2.1)) (by decide) ?_ | refine dx_take (i := 7) rfl (fun ρ1 w1 hj hR => (show ρ1 14 = Value.bool _ from hR.2.1)) (fun ρ1 w1 hj hR => x_load (vs := [_, _, _]) TIs.out (show ρ1 3 = Value.pointer _ from hR.1) (hj.hp.rd_blk_at (i := 0) (n := 3) rfl rfl) rfl) ?_
          refine dx_nil ?_
          intro f W hJ hV
          have hb_5 := hJ.bl
          obtain ⟨v19, v18, v17, v16, v15, v14, v13, v12, _⟩ := hV
          simp only [updL]
          have e12 : f 0 = _ := v12
          rw [e12]
          have e13 : f 1 = _ := v13
          rw [e13]
          have e14 : f 2 = _ := v14
          rw [e14]
          have e15 : f 3 = _ := v15
          rw [e15]
          have e16 : f 4 = _ := v16
          rw [e16]
          have e17 : f 5 = _ := v17
          rw [e17]
          have e18 : f 6 = _ := v18
          rw [e18]
          have e19 : f 7 = _ := v19
          rw [e19]
          replace hh := hJ.hp
          clear e12 e13 e14 e15 e16 e17 e18 e19 hJ
          -- at guarded Op.call { callee := Callee.value (Operand.func 40), args := #[Operand.tmp 18, Op
          refine wl_guard_take rfl rfl ?_
          refine s_callf (hpc _) FnIs.out rfl (by decide) ?_
          rintro e_ w20 ⟨rfl, hb_⟩
          refine ⟨_, rfl, ?_⟩
          replace hh := hh.ext hb_
          first | (refine wl_guard_skip (by decide) rfl rfl (by decide) ?_) | (refine wl_guard_take rfl rfl ?_; (first | refine s_gtr_t rfl rfl (by omega) (by decide) ?_ | refine s_gtr_f rfl rfl (by omega) (by decide) ?_ | refine s_gtr_v rfl rfl (by decide) ?_)) | (refine wl_guard_skipV (by decide) rfl rfl ?_)
          first | refine s_pick_t rfl (ev_bool rfl) (by decide) ?_ | refine s_pick_f rfl (ev_bool rfl) (by decide) ?_
          refine wl_end ?_
          refine wc_cond_t rfl ?_
          refine wc_region ?_
          refine s_move (ev_sl rfl) (by decide) ?_
          refine s_move (ev_int rfl) (by decide) ?_
          refine s_indexSl (k := i) UIs.out TIs.size rfl rfl (by omega) (by omega) (by decide) ?_
          -- at some 26
          refine s_load (vs := [_, _, _]) TIs.out rfl ((hr.ext hh.below).recAt NR.len hx) rfl (by decide) ?_
          -- at some 27 := Op.call { callee := Callee.value (Operand.func 18), args := #[Operand.tmp 26], argTypes :=
          refine s_callf (yForm_calls x _ (by omega) (by omega) (by omega)) FnIs.out rfl (by decide) ?_
          rintro e_ w27 ⟨rfl, hb_⟩
          refine ⟨_, rfl, ?_⟩
          replace hh := hh.ext hb_
          refine wl_store hh (i := 0) (vs := [_, _, _]) rfl rfl rfl rfl TIs.out rfl (by simp) rfl ?_
          intro ws hh
          replace hh : Hp _ (.blk _ _ [_, _, _] _ :: _) _ := hh
          refine wl_nil ?_
          refine b_norm ?_
          refine k_then ?_
          refine wc_region ?_
          refine s_move (ev_int rfl) (by decide) ?_
          refine s_addi rfl rfl (by omega) (by omega) (by decide) ?_
          refine s_assign (ev_int rfl) (by decide) ?_
          refine wl_nil ?_
          refine k_then ?_
          -- at ('round',)
          refine ⟨⟨i + 1, _, by omega, rfl, hS3.symm, hxk, hh⟩, by show n - (i + 1) < n - i; omega, ?_⟩
          (repeat (first | exact agree_mask _ _ _ | refine agree_upd rfl ?_ | refine agree_mask2 rfl ?_))
        · rw [if_neg (fun h => hc ((cmpD_gt _ _).2 h))] at hS3
          refine wc_seq ?_
          refine wc_seq ?_
          refine wc_region ?_
          refine s_move (ev_int rfl) (by decide) ?_
          refine s_move (ev_sl rfl) (by decide) ?_
          refine s_len_sl UIs.out rfl (by decide) ?_
          first | refine s_lss_t rfl rfl (by omega) (by decide) ?_ | refine s_lss_f rfl rfl (by omega) (by decide) ?_ | refine s_lss_v rfl rfl (by decide) ?_
          refine wl_end ?_
          refine wc_cond_t rfl ?_
          refine wc_skip ?_
          refine k_then ?_
          refine wc_seq ?_
          refine wc_block ?_
          refine wc_seq ?_
          -- at the drawn region 5
          refine wc_drawn 8 [[(4, none)], [(12, some 0)], [(13, some 1)], [(0, none), (14, some 2)], [(4, none), (14, some 2)], [(15, some 3), (16, some 4), (14, some 2)], [(17, some 5), (14, some 2)], [(3, none), (14, some 2)]] [(7, 19), (6, 18), (5, 17), (4, 16), (3, 15), (2, 14), (1, 13), (0, 12)] hh mixed (by kernel_rfl) ?_
          refine dx_val (i := 0) (fun ρ1 w1 hj hR => x_move (show ρ1 4 = Value.int _ _ from hR.1)) ?_
          first | refine dx_val (i := 1) (fun ρ1 w1 hj hR => x_eql_t (show ρ1 12 = Value.int _ _ from hR.1) rfl (by omega)) ?_ | refine dx_val (i := 1) (fun ρ1 w1 hj hR => x_eql_f (show ρ1 12 = Value.int _ _ from hR.1) rfl (by omega)) ?_ | refine dx_val (i := 1) (fun ρ1 w1 hj hR => x_eql_v (show ρ1 12 = Value.int _ _ from hR.1) rfl) ?_
          refine dx_val (i := 2) (fun ρ1 w1 hj hR => x_move (show ρ1 13 = Value.bool _ from hR.1)) ?_
          first | refine dx_skip (i := 3) rfl (fun ρ1 w1 hj hR => (show ρ1 14 = Value.bool _ from hR.2.1)) (by decide) ?_ | refine dx_take (i := 3) rfl (fun ρ1 w1 hj hR => (show ρ1 14 = Value.bool _ from hR.2.1)) (fun ρ1 w1 hj hR => x_move (show ρ1 0 = Value.slice _ _ _ from hR.1)) ?_
          first | refine dx_skip (i := 4) rfl (fun ρ1 w1 hj hR => (show ρ1 14 = Value.bool _ from hR.2.1)) (by decide) ?_ | refine dx_take (i := 4) rfl (fun ρ1 w1 hj hR => (show ρ1 14 = Value.bool _ from hR.2.1)) (fun ρ1 w1 hj hR => x_move (show ρ1 4 = Value.int _ _ from hR.1)) ?_
          first | refine dx_skip (i := 5) rfl (fun ρ1 w1 hj hR => (show ρ1 14 = Value.bool _ from hR.2.2.1)) (by decide) ?_ | refine dx_take (i := 5) rfl (fun ρ1 w1 hj hR => (show ρ1 14 = Value.bool _ from hR.2.2.1)) (fun ρ1 w1 hj hR => x_indexSl (k := i) UIs.out TIs.size (show ρ1 15 = Value.slice _ _ _ from hR.1) (show ρ1 16 = Value.int _ _ from hR.2.1) (by omega) (by omega)) ?_
          first | refine dx_skip (i := 6) rfl (fun ρ1 w1 hj hR => (show ρ1 14 = Value.bool _ from hR.2.1)) (by decide) ?_ | refine dx_take (i := 6) rfl (fun ρ1 w1 hj hR => (show ρ1 14 = Value.bool _ from hR.2.1)) (fun ρ1 w1 hj hR => x_load (vs := [_, _, _]) TIs.out (show ρ1 17 = Value.pointer _ from hR.1) ((hr.ext hj.hp.below).recAt NR.len hx) rfl) ?_
          first | refine dx_skip (i := 7) rfl (fun ρ1 w1 hj hR => (show ρ1 14 = Value.bool _ from hR.2.1)) (by decide) ?_ | refine dx_take (i := 7) rfl (fun ρ1 w1 hj hR => (show ρ1 14 = Value.bool _ from hR.2.1)) (fun ρ1 w1 hj hR => x_load (vs := [_, _, _]) TIs.out (show ρ1 3 = Value.pointer _ from hR.1) (hj.hp.rd_blk_at (i := 0) (n := 3) rfl rfl) rfl) ?_
          refine dx_nil ?_
          intro f W hJ hV
          have hb_5 := hJ.bl
          obtain ⟨v19, v18, v17, v16, v15, v14, v13, v12, _⟩ := hV
          simp only [updL]
          have e12 : f 0 = _ := v12
          rw [e12]
          have e13 : f 1 = _ := v13
          rw [e13]
          have e14 : f 2 = _ := v14
          rw [e14]
          have e15 : f 3 = _ := v15
          rw [e15]
          have e16 : f 4 = _ := v16
          rw [e16]
          have e17 : f 5 = _ := v17
          rw [e17]
          have e18 : f 6 = _ := v18
          rw [e18]
          have e19 : f 7 = _ := v19
          rw [e19]
          replace hh := hJ.hp
          clear e12 e13 e14 e15 e16 e17 e18 e19 hJ
          -- at guarded Op.call { callee := Callee.value (Operand.func 40), args := #[Operand.tmp 18, Op
          refine wl_guard_take rfl rfl ?_
          refine s_callf (hpc _) FnIs.out rfl (by decide) ?_
          rintro e_ w20 ⟨rfl, hb_⟩
          refine ⟨_, rfl, ?_⟩
          replace hh := hh.ext hb_
          first | (refine wl_guard_skip (by decide) rfl rfl (by decide) ?_) | (refine wl_guard_take rfl rfl ?_; (first | refine s_gtr_t rfl rfl (by omega) (by decide) ?_ | refine s_gtr_f rfl rfl (by omega) (by decide) ?_ | refine s_gtr_v rfl rfl (by decide) ?_)) | (refine wl_guard_skipV (by decide) rfl rfl ?_)
          first | refine s_pick_t rfl (ev_bool rfl) (by decide) ?_ | refine s_pick_f rfl (ev_bool rfl) (by decide) ?_
          refine wl_end ?_
          refine wc_cond_f rfl ?_
          refine wc_skip ?_
          refine b_norm ?_
          refine k_then ?_
          refine wc_region ?_
          refine s_move (ev_int rfl) (by decide) ?_
          refine s_addi rfl rfl (by omega) (by omega) (by decide) ?_
          refine s_assign (ev_int rfl) (by decide) ?_
          refine wl_nil ?_
          refine k_then ?_
          -- at ('round',)
          refine ⟨⟨i + 1, _, by omega, rfl, hS3.symm, hSz, hh⟩, by show n - (i + 1) < n - i; omega, ?_⟩
          (repeat (first | exact agree_mask _ _ _ | refine agree_upd rfl ?_ | refine agree_mask2 rfl ?_))
    · refine wc_seq ?_
      refine wc_seq ?_
      refine wc_region ?_
      refine s_move (ev_int rfl) (by decide) ?_
      refine s_move (ev_sl rfl) (by decide) ?_
      refine s_len_sl UIs.out rfl (by decide) ?_
      first | refine s_lss_t rfl rfl (by omega) (by decide) ?_ | refine s_lss_f rfl rfl (by omega) (by decide) ?_ | refine s_lss_v rfl rfl (by decide) ?_
      refine wl_end ?_
      refine wc_cond_f rfl ?_
      refine wc_exit ?_
      refine k_exit ?_
      refine k_exit ?_
      refine b_here ?_
      refine k_then ?_
      refine wc_seq ?_
      refine wc_region ?_
      refine s_load (vs := [_, _, _]) TIs.out rfl (hh.rd_blk_at (i := 0) (n := 3) rfl rfl) rfl (by decide) ?_
      refine wl_store hh (i := 1) (vs := [_, _, _]) rfl rfl rfl rfl TIs.out rfl (by simp) rfl ?_
      intro ws hh
      replace hh : Hp _ (_ :: .blk _ _ [_, _, _] _ :: _) _ := hh
      refine wl_end ?_
      refine wc_ret ?_
      -- at ('end', 'ret')
      refine retc1 (by first | exact .inr rfl | exact .inl rfl) rfl (r_cell rfl (lv_agg (vs := [_, _, _]) TIs.out (hh.rd_blk_at (i := 1) (n := 3) rfl rfl) rfl) r_nil) ?_
      rw [List.take_of_length_le (by omega)] at hS2
      rw [hS2]
      exact ⟨rfl, hh.below⟩
end Go.Proofs.YtgljgalcbbjfgaaGreatDoor
