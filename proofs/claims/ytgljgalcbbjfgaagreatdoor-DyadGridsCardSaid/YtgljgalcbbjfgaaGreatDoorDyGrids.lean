/- The walk through the law DyadGrids. -/
import Derived.Test.YtgljgalcbbjfgaaGreatDoorDyMuls
namespace Go.Proofs.YtgljgalcbbjfgaaGreatDoor
open Go.RowKit
-- umode
theorem dyadGrids_calls (a : NR) (p : Int) (w : World) (hT : Tab w) :
    Calls Tryz.prog 4 #[.agg #[.bool a.neg, .string a.mag, .int .i64 a.e], .int .i64 p] w fun r w' => r = .returned (.bool true) ∧ Below w.heap.size w w' := by
  have hh := Hp.start w
  cases hlg : longB 40 300 [a] with
  | true =>
    refine calls_vc (N := 36) (l := [.agg #[.bool a.neg, .string a.mag, .int .i64 a.e], .int .i64 p]) Tryz.func4 rfl rfl (by simp) ?_
    refine wc_seq ?_
    refine wc_region ?_
    refine wl_box hh (cs := [_, _, _]) rfl rfl (by decide) ?_
    intro b2 w2 hh
    refine s_assign (ev_bool rfl) (by decide) ?_
    refine wl_end ?_
    refine wc_seq ?_
    refine wc_seq ?_
    refine wc_region ?_
    refine s_load (vs := [_, _, _]) TIs.out rfl (hh.rd_blk_at (i := 0) (n := 3) rfl rfl) rfl (by decide) ?_
    refine wl_buildSlice hh (cs := [_, _, _]) UIs.out TIs.out (evp_cons (ev_agg rfl) evp_nil) rfl rfl (by decide) (by decide) (by decide) rfl (by decide) ?_
    intro b6 w6 hh
    -- at some 7 := Op.call { callee := Callee.value (Operand.func 8), args := #[Operand.const (Value.int IntK
    refine s_callf (long_calls 40 300 _ 1 _ [a] _ (hh.sl_row (i := 0) rfl) (by omega) (by omega) (by omega)) FnIs.out rfl (by decide) ?_
    rintro e_ w7 ⟨rfl, hb_⟩
    refine ⟨_, rfl, ?_⟩
    replace hh := hh.ext hb_
    rw [hlg]
    refine s_move (ev_bool rfl) (by decide) ?_
    first | (refine wl_guard_skip (by decide) rfl rfl (by decide) ?_) | (refine wl_guard_take rfl rfl ?_; (refine s_move (ev_int rfl) (by decide) ?_)) | (refine wl_guard_skipV (by decide) rfl rfl ?_)
    first | (refine wl_guard_skip (by decide) rfl rfl (by decide) ?_) | (refine wl_guard_take rfl rfl ?_; (first | refine s_lss_t rfl rfl (by omega) (by decide) ?_ | refine s_lss_f rfl rfl (by omega) (by decide) ?_ | refine s_lss_v rfl rfl (by decide) ?_)) | (refine wl_guard_skipV (by decide) rfl rfl ?_)
    first | refine s_pick_t rfl (ev_bool rfl) (by decide) ?_ | refine s_pick_f rfl (ev_bool rfl) (by decide) ?_
    refine s_move (ev_bool rfl) (by decide) ?_
    first | (refine wl_guard_skip (by decide) rfl rfl (by decide) ?_) | (refine wl_guard_take rfl rfl ?_; (refine s_move (ev_int rfl) (by decide) ?_)) | (refine wl_guard_skipV (by decide) rfl rfl ?_)
    first | (refine wl_guard_skip (by decide) rfl rfl (by decide) ?_) | (refine wl_guard_take rfl rfl ?_; (first | refine s_gtr_t rfl rfl (by omega) (by decide) ?_ | refine s_gtr_f rfl rfl (by omega) (by decide) ?_ | refine s_gtr_v rfl rfl (by decide) ?_)) | (refine wl_guard_skipV (by decide) rfl rfl ?_)
    first | refine s_pick_t rfl (ev_bool rfl) (by decide) ?_ | refine s_pick_f rfl (ev_bool rfl) (by decide) ?_
    refine wl_end ?_
    refine wc_cond_t rfl ?_
    refine wc_seq ?_
    refine wc_region ?_
    -- at some 16 := Op.call { callee := Callee.value (Operand.func 9), args := #[], argTypes := #[] }
    refine s_callf (awake_calls _ (hT.hp hh)) FnIs.out rfl (by decide) ?_
    rintro e_ w16 ⟨rfl, hb_⟩
    refine ⟨_, rfl, ?_⟩
    replace hh := hh.ext hb_
    refine s_assign (ev_bool rfl) (by decide) ?_
    refine wl_end ?_
    refine wc_ret ?_
    refine k_ret ?_
    -- at ('end', 'ret')
    refine ret1 (by first | exact .inr rfl | exact .inl rfl) rfl (v_bool rfl) ?_
    exact ⟨rfl, hh.below⟩
  | false =>
    have hsh := short hlg a List.mem_cons_self
    have hsz : Sz 1000 a.d := (short_sz (most := 40) (far := 300) hsh).mono (by omega)
    have hok : a.ok := ⟨by omega, by omega, by omega⟩
    by_cases h1 : p < -1000
    · refine calls_vc (N := 36) (l := [.agg #[.bool a.neg, .string a.mag, .int .i64 a.e], .int .i64 p]) Tryz.func4 rfl rfl (by simp) ?_
      refine wc_seq ?_
      refine wc_region ?_
      refine wl_box hh (cs := [_, _, _]) rfl rfl (by decide) ?_
      intro b2 w2 hh
      refine s_assign (ev_bool rfl) (by decide) ?_
      refine wl_end ?_
      refine wc_seq ?_
      refine wc_seq ?_
      refine wc_region ?_
      refine s_load (vs := [_, _, _]) TIs.out rfl (hh.rd_blk_at (i := 0) (n := 3) rfl rfl) rfl (by decide) ?_
      refine wl_buildSlice hh (cs := [_, _, _]) UIs.out TIs.out (evp_cons (ev_agg rfl) evp_nil) rfl rfl (by decide) (by decide) (by decide) rfl (by decide) ?_
      intro b6 w6 hh
      -- at some 7 := Op.call { callee := Callee.value (Operand.func 8), args := #[Operand.const (Value.int IntK
      refine s_callf (long_calls 40 300 _ 1 _ [a] _ (hh.sl_row (i := 0) rfl) (by omega) (by omega) (by omega)) FnIs.out rfl (by decide) ?_
      rintro e_ w7 ⟨rfl, hb_⟩
      refine ⟨_, rfl, ?_⟩
      replace hh := hh.ext hb_
      rw [hlg]
      refine s_move (ev_bool rfl) (by decide) ?_
      first | (refine wl_guard_skip (by decide) rfl rfl (by decide) ?_) | (refine wl_guard_take rfl rfl ?_; (refine s_move (ev_int rfl) (by decide) ?_)) | (refine wl_guard_skipV (by decide) rfl rfl ?_)
      first | (refine wl_guard_skip (by decide) rfl rfl (by decide) ?_) | (refine wl_guard_take rfl rfl ?_; (first | refine s_lss_t rfl rfl (by omega) (by decide) ?_ | refine s_lss_f rfl rfl (by omega) (by decide) ?_ | refine s_lss_v rfl rfl (by decide) ?_)) | (refine wl_guard_skipV (by decide) rfl rfl ?_)
      first | refine s_pick_t rfl (ev_bool rfl) (by decide) ?_ | refine s_pick_f rfl (ev_bool rfl) (by decide) ?_
      refine s_move (ev_bool rfl) (by decide) ?_
      first | (refine wl_guard_skip (by decide) rfl rfl (by decide) ?_) | (refine wl_guard_take rfl rfl ?_; (refine s_move (ev_int rfl) (by decide) ?_)) | (refine wl_guard_skipV (by decide) rfl rfl ?_)
      first | (refine wl_guard_skip (by decide) rfl rfl (by decide) ?_) | (refine wl_guard_take rfl rfl ?_; (first | refine s_gtr_t rfl rfl (by omega) (by decide) ?_ | refine s_gtr_f rfl rfl (by omega) (by decide) ?_ | refine s_gtr_v rfl rfl (by decide) ?_)) | (refine wl_guard_skipV (by decide) rfl rfl ?_)
      first | refine s_pick_t rfl (ev_bool rfl) (by decide) ?_ | refine s_pick_f rfl (ev_bool rfl) (by decide) ?_
      refine wl_end ?_
      refine wc_cond_t rfl ?_
      refine wc_seq ?_
      refine wc_region ?_
      -- at some 16 := Op.call { callee := Callee.value (Operand.func 9), args := #[], argTypes := #[] }
      refine s_callf (awake_calls _ (hT.hp hh)) FnIs.out rfl (by decide) ?_
      rintro e_ w16 ⟨rfl, hb_⟩
      refine ⟨_, rfl, ?_⟩
      replace hh := hh.ext hb_
      refine s_assign (ev_bool rfl) (by decide) ?_
      refine wl_end ?_
      refine wc_ret ?_
      refine k_ret ?_
      -- at ('end', 'ret')
      refine ret1 (by first | exact .inr rfl | exact .inl rfl) rfl (v_bool rfl) ?_
      exact ⟨rfl, hh.below⟩
    · by_cases h2 : 1000 < p
      · refine calls_vc (N := 36) (l := [.agg #[.bool a.neg, .string a.mag, .int .i64 a.e], .int .i64 p]) Tryz.func4 rfl rfl (by simp) ?_
        refine wc_seq ?_
        refine wc_region ?_
        refine wl_box hh (cs := [_, _, _]) rfl rfl (by decide) ?_
        intro b2 w2 hh
        refine s_assign (ev_bool rfl) (by decide) ?_
        refine wl_end ?_
        refine wc_seq ?_
        refine wc_seq ?_
        refine wc_region ?_
        refine s_load (vs := [_, _, _]) TIs.out rfl (hh.rd_blk_at (i := 0) (n := 3) rfl rfl) rfl (by decide) ?_
        refine wl_buildSlice hh (cs := [_, _, _]) UIs.out TIs.out (evp_cons (ev_agg rfl) evp_nil) rfl rfl (by decide) (by decide) (by decide) rfl (by decide) ?_
        intro b6 w6 hh
        -- at some 7 := Op.call { callee := Callee.value (Operand.func 8), args := #[Operand.const (Value.int IntK
        refine s_callf (long_calls 40 300 _ 1 _ [a] _ (hh.sl_row (i := 0) rfl) (by omega) (by omega) (by omega)) FnIs.out rfl (by decide) ?_
        rintro e_ w7 ⟨rfl, hb_⟩
        refine ⟨_, rfl, ?_⟩
        replace hh := hh.ext hb_
        rw [hlg]
        refine s_move (ev_bool rfl) (by decide) ?_
        first | (refine wl_guard_skip (by decide) rfl rfl (by decide) ?_) | (refine wl_guard_take rfl rfl ?_; (refine s_move (ev_int rfl) (by decide) ?_)) | (refine wl_guard_skipV (by decide) rfl rfl ?_)
        first | (refine wl_guard_skip (by decide) rfl rfl (by decide) ?_) | (refine wl_guard_take rfl rfl ?_; (first | refine s_lss_t rfl rfl (by omega) (by decide) ?_ | refine s_lss_f rfl rfl (by omega) (by decide) ?_ | refine s_lss_v rfl rfl (by decide) ?_)) | (refine wl_guard_skipV (by decide) rfl rfl ?_)
        first | refine s_pick_t rfl (ev_bool rfl) (by decide) ?_ | refine s_pick_f rfl (ev_bool rfl) (by decide) ?_
        refine s_move (ev_bool rfl) (by decide) ?_
        first | (refine wl_guard_skip (by decide) rfl rfl (by decide) ?_) | (refine wl_guard_take rfl rfl ?_; (refine s_move (ev_int rfl) (by decide) ?_)) | (refine wl_guard_skipV (by decide) rfl rfl ?_)
        first | (refine wl_guard_skip (by decide) rfl rfl (by decide) ?_) | (refine wl_guard_take rfl rfl ?_; (first | refine s_gtr_t rfl rfl (by omega) (by decide) ?_ | refine s_gtr_f rfl rfl (by omega) (by decide) ?_ | refine s_gtr_v rfl rfl (by decide) ?_)) | (refine wl_guard_skipV (by decide) rfl rfl ?_)
        first | refine s_pick_t rfl (ev_bool rfl) (by decide) ?_ | refine s_pick_f rfl (ev_bool rfl) (by decide) ?_
        refine wl_end ?_
        refine wc_cond_t rfl ?_
        refine wc_seq ?_
        refine wc_region ?_
        -- at some 16 := Op.call { callee := Callee.value (Operand.func 9), args := #[], argTypes := #[] }
        refine s_callf (awake_calls _ (hT.hp hh)) FnIs.out rfl (by decide) ?_
        rintro e_ w16 ⟨rfl, hb_⟩
        refine ⟨_, rfl, ?_⟩
        replace hh := hh.ext hb_
        refine s_assign (ev_bool rfl) (by decide) ?_
        refine wl_end ?_
        refine wc_ret ?_
        refine k_ret ?_
        -- at ('end', 'ret')
        refine ret1 (by first | exact .inr rfl | exact .inl rfl) rfl (v_bool rfl) ?_
        exact ⟨rfl, hh.below⟩
      · refine calls_vc (N := 36) (l := [.agg #[.bool a.neg, .string a.mag, .int .i64 a.e], .int .i64 p]) Tryz.func4 rfl rfl (by simp) ?_
        refine wc_seq ?_
        refine wc_region ?_
        refine wl_box hh (cs := [_, _, _]) rfl rfl (by decide) ?_
        intro b2 w2 hh
        refine s_assign (ev_bool rfl) (by decide) ?_
        refine wl_end ?_
        refine wc_seq ?_
        refine wc_seq ?_
        refine wc_region ?_
        refine s_load (vs := [_, _, _]) TIs.out rfl (hh.rd_blk_at (i := 0) (n := 3) rfl rfl) rfl (by decide) ?_
        refine wl_buildSlice hh (cs := [_, _, _]) UIs.out TIs.out (evp_cons (ev_agg rfl) evp_nil) rfl rfl (by decide) (by decide) (by decide) rfl (by decide) ?_
        intro b6 w6 hh
        -- at some 7 := Op.call { callee := Callee.value (Operand.func 8), args := #[Operand.const (Value.int IntK
        refine s_callf (long_calls 40 300 _ 1 _ [a] _ (hh.sl_row (i := 0) rfl) (by omega) (by omega) (by omega)) FnIs.out rfl (by decide) ?_
        rintro e_ w7 ⟨rfl, hb_⟩
        refine ⟨_, rfl, ?_⟩
        replace hh := hh.ext hb_
        rw [hlg]
        refine s_move (ev_bool rfl) (by decide) ?_
        first | (refine wl_guard_skip (by decide) rfl rfl (by decide) ?_) | (refine wl_guard_take rfl rfl ?_; (refine s_move (ev_int rfl) (by decide) ?_)) | (refine wl_guard_skipV (by decide) rfl rfl ?_)
        first | (refine wl_guard_skip (by decide) rfl rfl (by decide) ?_) | (refine wl_guard_take rfl rfl ?_; (first | refine s_lss_t rfl rfl (by omega) (by decide) ?_ | refine s_lss_f rfl rfl (by omega) (by decide) ?_ | refine s_lss_v rfl rfl (by decide) ?_)) | (refine wl_guard_skipV (by decide) rfl rfl ?_)
        first | refine s_pick_t rfl (ev_bool rfl) (by decide) ?_ | refine s_pick_f rfl (ev_bool rfl) (by decide) ?_
        refine s_move (ev_bool rfl) (by decide) ?_
        first | (refine wl_guard_skip (by decide) rfl rfl (by decide) ?_) | (refine wl_guard_take rfl rfl ?_; (refine s_move (ev_int rfl) (by decide) ?_)) | (refine wl_guard_skipV (by decide) rfl rfl ?_)
        first | (refine wl_guard_skip (by decide) rfl rfl (by decide) ?_) | (refine wl_guard_take rfl rfl ?_; (first | refine s_gtr_t rfl rfl (by omega) (by decide) ?_ | refine s_gtr_f rfl rfl (by omega) (by decide) ?_ | refine s_gtr_v rfl rfl (by decide) ?_)) | (refine wl_guard_skipV (by decide) rfl rfl ?_)
        first | refine s_pick_t rfl (ev_bool rfl) (by decide) ?_ | refine s_pick_f rfl (ev_bool rfl) (by decide) ?_
        refine wl_end ?_
        refine wc_cond_f rfl ?_
        refine wc_skip ?_
        refine k_then ?_
        refine wc_seq ?_
        -- at the drawn region 3
        refine wc_drawn 13 [[(2, none)], [(1, none)], [(17, some 0), (18, some 1)], [(2, none)], [(1, none)], [(20, some 3), (21, some 4)], [(19, some 2), (22, some 5)], [(23, some 6)], [(2, none), (24, some 7)], [(1, none), (24, some 7)], [(25, some 8), (26, some 9), (24, some 7)], [(2, none), (24, some 7)], [(1, none), (24, some 7)]] [(12, 29), (11, 28), (10, 27), (9, 26), (8, 25), (7, 24), (6, 23), (5, 22), (4, 21), (3, 20), (2, 19), (1, 18), (0, 17)] hh mixed (by kernel_rfl) ?_
        refine dx_val (i := 0) (fun ρ1 w1 hj hR => x_load (vs := [_, _, _]) TIs.out (show ρ1 2 = Value.pointer _ from hR.1) (hj.hp.rd_blk_at (i := 1) (n := 3) rfl rfl) rfl) ?_
        refine dx_val (i := 1) (fun ρ1 w1 hj hR => x_move (show ρ1 1 = Value.int _ _ from hR.1)) ?_
        refine dx_call (i := 2) (fun ρ1 w1 hj hR => run_callf FnIs.out (evs_cons (show ρ1 17 = Value.agg (List.toArray _) from hR.1) (evs_cons (show ρ1 18 = Value.int _ _ from hR.2.1) evs_nil))) (fun w1 hj => dFloor_calls a p _ (hT.hp hj.hp) hok (by omega) (by omega)) ?_
        refine dx_val (i := 3) (fun ρ1 w1 hj hR => x_load (vs := [_, _, _]) TIs.out (show ρ1 2 = Value.pointer _ from hR.1) (hj.hp.rd_blk_at (i := 1) (n := 3) rfl rfl) rfl) ?_
        refine dx_val (i := 4) (fun ρ1 w1 hj hR => x_move (show ρ1 1 = Value.int _ _ from hR.1)) ?_
        refine dx_call (i := 5) (fun ρ1 w1 hj hR => run_callf FnIs.out (evs_cons (show ρ1 20 = Value.agg (List.toArray _) from hR.1) (evs_cons (show ρ1 21 = Value.int _ _ from hR.2.1) evs_nil))) (fun w1 hj => yFloor_calls a p _ hok (by omega) (by omega)) ?_
        first | refine dx_val (i := 6) (fun ρ1 w1 hj hR => x_eqN_t (show ρ1 19 = Value.agg (List.toArray _) from hR.1) (show ρ1 22 = Value.agg (List.toArray _) from hR.2.1) (by first | assumption | rfl)) ?_ | refine dx_val (i := 6) (fun ρ1 w1 hj hR => x_eqN_f (show ρ1 19 = Value.agg (List.toArray _) from hR.1) (show ρ1 22 = Value.agg (List.toArray _) from hR.2.1) (by assumption)) ?_
        refine dx_val (i := 7) (fun ρ1 w1 hj hR => x_move (show ρ1 23 = Value.bool _ from hR.1)) ?_
        first | refine dx_skip (i := 8) rfl (fun ρ1 w1 hj hR => (show ρ1 24 = Value.bool _ from hR.2.1)) (by decide) ?_ | refine dx_take (i := 8) rfl (fun ρ1 w1 hj hR => (show ρ1 24 = Value.bool _ from hR.2.1)) (fun ρ1 w1 hj hR => x_load (vs := [_, _, _]) TIs.out (show ρ1 2 = Value.pointer _ from hR.1) (hj.hp.rd_blk_at (i := 1) (n := 3) rfl rfl) rfl) ?_
        first | refine dx_skip (i := 9) rfl (fun ρ1 w1 hj hR => (show ρ1 24 = Value.bool _ from hR.2.1)) (by decide) ?_ | refine dx_take (i := 9) rfl (fun ρ1 w1 hj hR => (show ρ1 24 = Value.bool _ from hR.2.1)) (fun ρ1 w1 hj hR => x_move (show ρ1 1 = Value.int _ _ from hR.1)) ?_
        refine dx_take_call (i := 10) rfl (fun ρ1 w1 hj hR => (show ρ1 24 = Value.bool _ from hR.2.2.1)) (fun ρ1 w1 hj hR => run_callf FnIs.out (evs_cons (show ρ1 25 = Value.agg (List.toArray _) from hR.1) (evs_cons (show ρ1 26 = Value.int _ _ from hR.2.1) evs_nil))) (fun w1 hj => dCeil_calls a p _ (hT.hp hj.hp) hok (hsz.ok (by omega)) (by omega) (by omega)) ?_
        first | refine dx_skip (i := 11) rfl (fun ρ1 w1 hj hR => (show ρ1 24 = Value.bool _ from hR.2.1)) (by decide) ?_ | refine dx_take (i := 11) rfl (fun ρ1 w1 hj hR => (show ρ1 24 = Value.bool _ from hR.2.1)) (fun ρ1 w1 hj hR => x_load (vs := [_, _, _]) TIs.out (show ρ1 2 = Value.pointer _ from hR.1) (hj.hp.rd_blk_at (i := 1) (n := 3) rfl rfl) rfl) ?_
        first | refine dx_skip (i := 12) rfl (fun ρ1 w1 hj hR => (show ρ1 24 = Value.bool _ from hR.2.1)) (by decide) ?_ | refine dx_take (i := 12) rfl (fun ρ1 w1 hj hR => (show ρ1 24 = Value.bool _ from hR.2.1)) (fun ρ1 w1 hj hR => x_move (show ρ1 1 = Value.int _ _ from hR.1)) ?_
        refine dx_nil ?_
        intro f W hJ hV
        have hb_3 := hJ.bl
        obtain ⟨v29, v28, v27, v26, v25, v24, v23, v22, v21, v20, v19, v18, v17, _⟩ := hV
        simp only [updL]
        have e17 : f 0 = _ := v17
        rw [e17]
        have e18 : f 1 = _ := v18
        rw [e18]
        have e19 : f 2 = _ := v19
        rw [e19]
        have e20 : f 3 = _ := v20
        rw [e20]
        have e21 : f 4 = _ := v21
        rw [e21]
        have e22 : f 5 = _ := v22
        rw [e22]
        have e23 : f 6 = _ := v23
        rw [e23]
        have e24 : f 7 = _ := v24
        rw [e24]
        have e25 : f 8 = _ := v25
        rw [e25]
        have e26 : f 9 = _ := v26
        rw [e26]
        have e27 : f 10 = _ := v27
        rw [e27]
        have e28 : f 11 = _ := v28
        rw [e28]
        have e29 : f 12 = _ := v29
        rw [e29]
        replace hh := hJ.hp
        clear e17 e18 e19 e20 e21 e22 e23 e24 e25 e26 e27 e28 e29 hJ
        -- at guarded Op.call { callee := Callee.value (Operand.func 17), args := #[Operand.tmp 28, Op
        refine wl_guard_take rfl rfl ?_
        refine s_callf (yCeil_calls a p _ hok 1000 hsz (by omega) (by omega) (by omega)) FnIs.out rfl (by decide) ?_
        rintro e_ w30 ⟨rfl, hb_⟩
        refine ⟨_, rfl, ?_⟩
        replace hh := hh.ext hb_
        first | (refine wl_guard_skip (by decide) rfl rfl (by decide) ?_) | (refine wl_guard_take rfl rfl ?_; (first | refine s_eqN_t rfl rfl (by first | assumption | rfl) (by decide) ?_ | refine s_eqN_f rfl rfl (by assumption) (by decide) ?_)) | (refine wl_guard_skipV (by decide) rfl rfl ?_)
        first | refine s_pick_t rfl (ev_bool rfl) (by decide) ?_ | refine s_pick_f rfl (ev_bool rfl) (by decide) ?_
        refine s_move (ev_bool rfl) (by decide) ?_
        -- at guarded Op.call { callee := Callee.value (Operand.func 9), args := #[], argTypes := #[] 
        refine wl_guard_take rfl rfl ?_
        refine s_callf (awake_calls _ (hT.hp hh)) FnIs.out rfl (by decide) ?_
        rintro e_ w34 ⟨rfl, hb_⟩
        refine ⟨_, rfl, ?_⟩
        replace hh := hh.ext hb_
        first | refine s_pick_t rfl (ev_bool rfl) (by decide) ?_ | refine s_pick_f rfl (ev_bool rfl) (by decide) ?_
        refine s_assign (ev_bool rfl) (by decide) ?_
        refine wl_end ?_
        refine wc_ret ?_
        -- at ('end', 'ret')
        refine ret1 (by first | exact .inr rfl | exact .inl rfl) rfl (v_bool rfl) ?_
        exact ⟨rfl, hh.below⟩
end Go.Proofs.YtgljgalcbbjfgaaGreatDoor
