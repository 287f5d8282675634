/- The walk through the law DyadForms. -/
import Derived.Test.YtgljgalcbbjfgaaGreatDoorDyMuls
import Derived.Test.YtgljgalcbbjfgaaGreatDoorDrawC
namespace Go.Proofs.YtgljgalcbbjfgaaGreatDoor
open Go.RowKit
-- umode
-- cast
theorem dyadForms_calls (a : NR) (n by' : Int) (w : World) (hT : Tab w) (hn1 : -9223372036854775808 ≤ n) (hn2 : n ≤ 9223372036854775807) :
    Calls Tryz.prog 5 #[.agg #[.bool a.neg, .string a.mag, .int .i64 a.e], .int .i64 n, .int .i64 by'] w fun r w' => r = .returned (.bool true) ∧ Below w.heap.size w w' := by
  have hh := Hp.start w
  cases hlg : longB 60 500 [a] with
  | true =>
    refine calls_vc (N := 82) (l := [.agg #[.bool a.neg, .string a.mag, .int .i64 a.e], .int .i64 n, .int .i64 by']) Tryz.func5 rfl rfl (by simp) ?_
    refine wc_seq ?_
    refine wc_region ?_
    refine wl_box hh (cs := [_, _, _]) rfl rfl (by decide) ?_
    intro b3 w3 hh
    refine s_assign (ev_bool rfl) (by decide) ?_
    refine wl_end ?_
    refine wc_seq ?_
    refine wc_seq ?_
    refine wc_region ?_
    refine s_load (vs := [_, _, _]) TIs.out rfl (hh.rd_blk_at (i := 0) (n := 3) rfl rfl) rfl (by decide) ?_
    refine wl_buildSlice hh (cs := [_, _, _]) UIs.out TIs.out (evp_cons (ev_agg rfl) evp_nil) rfl rfl (by decide) (by decide) (by decide) rfl (by decide) ?_
    intro b9 w9 hh
    -- at some 10 := Op.call { callee := Callee.value (Operand.func 8), args := #[Operand.const (Value.int IntK
    refine s_callf (long_calls 60 500 _ 1 _ [a] _ (hh.sl_row (i := 0) rfl) (by omega) (by omega) (by omega)) FnIs.out rfl (by decide) ?_
    rintro e_ w10 ⟨rfl, hb_⟩
    refine ⟨_, rfl, ?_⟩
    replace hh := hh.ext hb_
    rw [hlg]
    refine s_move (ev_bool rfl) (by decide) ?_
    first | (refine wl_guard_skip (by decide) rfl rfl (by decide) ?_) | (refine wl_guard_take rfl rfl ?_; (refine s_move (ev_int rfl) (by decide) ?_)) | (refine wl_guard_skipV (by decide) rfl rfl ?_)
    first | (refine wl_guard_skip (by decide) rfl rfl (by decide) ?_) | (refine wl_guard_take rfl rfl ?_; (first | refine s_lss_t rfl rfl (by omega) (by decide) ?_ | refine s_lss_f rfl rfl (by omega) (by decide) ?_ | refine s_lss_v rfl rfl (by decide) ?_)) | (refine wl_guard_skipV (by decide) rfl rfl ?_)
    first | refine s_pick_t rfl (ev_bool rfl) (by decide) ?_ | refine s_pick_f rfl (ev_bool rfl) (by decide) ?_
    refine s_move (ev_bool rfl) (by decide) ?_
    first | (refine wl_guard_skip (by decide) rfl rfl (by decide) ?_) | (refine wl_guard_take rfl rfl ?_; (refine s_move (ev_int rfl) (by decide) ?_)) | (refine wl_guard_skipV (by decide) rfl rfl ?_)
    first | (refine wl_guard_skip (by decide) rfl rfl (by decide) ?_) | (refine wl_guard_take rfl rfl ?_; (first | refine s_gtr_t rfl rfl (by omega) (by decide) ?_ | refine s_gtr_f rfl rfl (by omega) (by decide) ?_ | refine s_gtr_v rfl rfl (by decide) ?_)) | (refine wl_guard_skipV (by decide) rfl rfl ?_)
    first | refine s_pick_t rfl (ev_bool rfl) (by decide) ?_ | refine s_pick_f rfl (ev_bool rfl) (by decide) ?_
    refine wl_end ?_
    refine wc_cond_t rfl ?_
    refine wc_seq ?_
    refine wc_region ?_
    -- at some 19 := Op.call { callee := Callee.value (Operand.func 9), args := #[], argTypes := #[] }
    refine s_callf (awake_calls _ (hT.hp hh)) FnIs.out rfl (by decide) ?_
    rintro e_ w19 ⟨rfl, hb_⟩
    refine ⟨_, rfl, ?_⟩
    replace hh := hh.ext hb_
    refine s_assign (ev_bool rfl) (by decide) ?_
    refine wl_end ?_
    refine wc_ret ?_
    refine k_ret ?_
    -- at ('end', 'ret')
    refine ret1 (by first | exact .inr rfl | exact .inl rfl) rfl (v_bool rfl) ?_
    exact ⟨rfl, hh.below⟩
  | false =>
    have hsh := short hlg a List.mem_cons_self
    by_cases h1 : by' < -500
    · refine calls_vc (N := 82) (l := [.agg #[.bool a.neg, .string a.mag, .int .i64 a.e], .int .i64 n, .int .i64 by']) Tryz.func5 rfl rfl (by simp) ?_
      refine wc_seq ?_
      refine wc_region ?_
      refine wl_box hh (cs := [_, _, _]) rfl rfl (by decide) ?_
      intro b3 w3 hh
      refine s_assign (ev_bool rfl) (by decide) ?_
      refine wl_end ?_
      refine wc_seq ?_
      refine wc_seq ?_
      refine wc_region ?_
      refine s_load (vs := [_, _, _]) TIs.out rfl (hh.rd_blk_at (i := 0) (n := 3) rfl rfl) rfl (by decide) ?_
      refine wl_buildSlice hh (cs := [_, _, _]) UIs.out TIs.out (evp_cons (ev_agg rfl) evp_nil) rfl rfl (by decide) (by decide) (by decide) rfl (by decide) ?_
      intro b9 w9 hh
      -- at some 10 := Op.call { callee := Callee.value (Operand.func 8), args := #[Operand.const (Value.int IntK
      refine s_callf (long_calls 60 500 _ 1 _ [a] _ (hh.sl_row (i := 0) rfl) (by omega) (by omega) (by omega)) FnIs.out rfl (by decide) ?_
      rintro e_ w10 ⟨rfl, hb_⟩
      refine ⟨_, rfl, ?_⟩
      replace hh := hh.ext hb_
      rw [hlg]
      refine s_move (ev_bool rfl) (by decide) ?_
      first | (refine wl_guard_skip (by decide) rfl rfl (by decide) ?_) | (refine wl_guard_take rfl rfl ?_; (refine s_move (ev_int rfl) (by decide) ?_)) | (refine wl_guard_skipV (by decide) rfl rfl ?_)
      first | (refine wl_guard_skip (by decide) rfl rfl (by decide) ?_) | (refine wl_guard_take rfl rfl ?_; (first | refine s_lss_t rfl rfl (by omega) (by decide) ?_ | refine s_lss_f rfl rfl (by omega) (by decide) ?_ | refine s_lss_v rfl rfl (by decide) ?_)) | (refine wl_guard_skipV (by decide) rfl rfl ?_)
      first | refine s_pick_t rfl (ev_bool rfl) (by decide) ?_ | refine s_pick_f rfl (ev_bool rfl) (by decide) ?_
      refine s_move (ev_bool rfl) (by decide) ?_
      first | (refine wl_guard_skip (by decide) rfl rfl (by decide) ?_) | (refine wl_guard_take rfl rfl ?_; (refine s_move (ev_int rfl) (by decide) ?_)) | (refine wl_guard_skipV (by decide) rfl rfl ?_)
      first | (refine wl_guard_skip (by decide) rfl rfl (by decide) ?_) | (refine wl_guard_take rfl rfl ?_; (first | refine s_gtr_t rfl rfl (by omega) (by decide) ?_ | refine s_gtr_f rfl rfl (by omega) (by decide) ?_ | refine s_gtr_v rfl rfl (by decide) ?_)) | (refine wl_guard_skipV (by decide) rfl rfl ?_)
      first | refine s_pick_t rfl (ev_bool rfl) (by decide) ?_ | refine s_pick_f rfl (ev_bool rfl) (by decide) ?_
      refine wl_end ?_
      refine wc_cond_t rfl ?_
      refine wc_seq ?_
      refine wc_region ?_
      -- at some 19 := Op.call { callee := Callee.value (Operand.func 9), args := #[], argTypes := #[] }
      refine s_callf (awake_calls _ (hT.hp hh)) FnIs.out rfl (by decide) ?_
      rintro e_ w19 ⟨rfl, hb_⟩
      refine ⟨_, rfl, ?_⟩
      replace hh := hh.ext hb_
      refine s_assign (ev_bool rfl) (by decide) ?_
      refine wl_end ?_
      refine wc_ret ?_
      refine k_ret ?_
      -- at ('end', 'ret')
      refine ret1 (by first | exact .inr rfl | exact .inl rfl) rfl (v_bool rfl) ?_
      exact ⟨rfl, hh.below⟩
    · by_cases h2 : 500 < by'
      · refine calls_vc (N := 82) (l := [.agg #[.bool a.neg, .string a.mag, .int .i64 a.e], .int .i64 n, .int .i64 by']) Tryz.func5 rfl rfl (by simp) ?_
        refine wc_seq ?_
        refine wc_region ?_
        refine wl_box hh (cs := [_, _, _]) rfl rfl (by decide) ?_
        intro b3 w3 hh
        refine s_assign (ev_bool rfl) (by decide) ?_
        refine wl_end ?_
        refine wc_seq ?_
        refine wc_seq ?_
        refine wc_region ?_
        refine s_load (vs := [_, _, _]) TIs.out rfl (hh.rd_blk_at (i := 0) (n := 3) rfl rfl) rfl (by decide) ?_
        refine wl_buildSlice hh (cs := [_, _, _]) UIs.out TIs.out (evp_cons (ev_agg rfl) evp_nil) rfl rfl (by decide) (by decide) (by decide) rfl (by decide) ?_
        intro b9 w9 hh
        -- at some 10 := Op.call { callee := Callee.value (Operand.func 8), args := #[Operand.const (Value.int IntK
        refine s_callf (long_calls 60 500 _ 1 _ [a] _ (hh.sl_row (i := 0) rfl) (by omega) (by omega) (by omega)) FnIs.out rfl (by decide) ?_
        rintro e_ w10 ⟨rfl, hb_⟩
        refine ⟨_, rfl, ?_⟩
        replace hh := hh.ext hb_
        rw [hlg]
        refine s_move (ev_bool rfl) (by decide) ?_
        first | (refine wl_guard_skip (by decide) rfl rfl (by decide) ?_) | (refine wl_guard_take rfl rfl ?_; (refine s_move (ev_int rfl) (by decide) ?_)) | (refine wl_guard_skipV (by decide) rfl rfl ?_)
        first | (refine wl_guard_skip (by decide) rfl rfl (by decide) ?_) | (refine wl_guard_take rfl rfl ?_; (first | refine s_lss_t rfl rfl (by omega) (by decide) ?_ | refine s_lss_f rfl rfl (by omega) (by decide) ?_ | refine s_lss_v rfl rfl (by decide) ?_)) | (refine wl_guard_skipV (by decide) rfl rfl ?_)
        first | refine s_pick_t rfl (ev_bool rfl) (by decide) ?_ | refine s_pick_f rfl (ev_bool rfl) (by decide) ?_
        refine s_move (ev_bool rfl) (by decide) ?_
        first | (refine wl_guard_skip (by decide) rfl rfl (by decide) ?_) | (refine wl_guard_take rfl rfl ?_; (refine s_move (ev_int rfl) (by decide) ?_)) | (refine wl_guard_skipV (by decide) rfl rfl ?_)
        first | (refine wl_guard_skip (by decide) rfl rfl (by decide) ?_) | (refine wl_guard_take rfl rfl ?_; (first | refine s_gtr_t rfl rfl (by omega) (by decide) ?_ | refine s_gtr_f rfl rfl (by omega) (by decide) ?_ | refine s_gtr_v rfl rfl (by decide) ?_)) | (refine wl_guard_skipV (by decide) rfl rfl ?_)
        first | refine s_pick_t rfl (ev_bool rfl) (by decide) ?_ | refine s_pick_f rfl (ev_bool rfl) (by decide) ?_
        refine wl_end ?_
        refine wc_cond_t rfl ?_
        refine wc_seq ?_
        refine wc_region ?_
        -- at some 19 := Op.call { callee := Callee.value (Operand.func 9), args := #[], argTypes := #[] }
        refine s_callf (awake_calls _ (hT.hp hh)) FnIs.out rfl (by decide) ?_
        rintro e_ w19 ⟨rfl, hb_⟩
        refine ⟨_, rfl, ?_⟩
        replace hh := hh.ext hb_
        refine s_assign (ev_bool rfl) (by decide) ?_
        refine wl_end ?_
        refine wc_ret ?_
        refine k_ret ?_
        -- at ('end', 'ret')
        refine ret1 (by first | exact .inr rfl | exact .inl rfl) rfl (v_bool rfl) ?_
        exact ⟨rfl, hh.below⟩
      · have hs := NR.sign a
        have hab := fun w1 hT1 => dAbs_calls a w1 hT1 (by omega) (by omega) (by omega)
        by_cases h0 : a.d < 0
        · have hs2 : a.i.sign < 0 := by rw [hs, cmpD, if_pos h0]; omega
          simp only [if_pos h0] at hab
          refine calls_vc (N := 82) (l := [.agg #[.bool a.neg, .string a.mag, .int .i64 a.e], .int .i64 n, .int .i64 by']) Tryz.func5 rfl rfl (by simp) ?_
          refine wc_seq ?_
          refine wc_region ?_
          refine wl_box hh (cs := [_, _, _]) rfl rfl (by decide) ?_
          intro b3 w3 hh
          refine s_assign (ev_bool rfl) (by decide) ?_
          refine wl_end ?_
          refine wc_seq ?_
          refine wc_seq ?_
          refine wc_region ?_
          refine s_load (vs := [_, _, _]) TIs.out rfl (hh.rd_blk_at (i := 0) (n := 3) rfl rfl) rfl (by decide) ?_
          refine wl_buildSlice hh (cs := [_, _, _]) UIs.out TIs.out (evp_cons (ev_agg rfl) evp_nil) rfl rfl (by decide) (by decide) (by decide) rfl (by decide) ?_
          intro b9 w9 hh
          -- at some 10 := Op.call { callee := Callee.value (Operand.func 8), args := #[Operand.const (Value.int IntK
          refine s_callf (long_calls 60 500 _ 1 _ [a] _ (hh.sl_row (i := 0) rfl) (by omega) (by omega) (by omega)) FnIs.out rfl (by decide) ?_
          rintro e_ w10 ⟨rfl, hb_⟩
          refine ⟨_, rfl, ?_⟩
          replace hh := hh.ext hb_
          rw [hlg]
          refine s_move (ev_bool rfl) (by decide) ?_
          first | (refine wl_guard_skip (by decide) rfl rfl (by decide) ?_) | (refine wl_guard_take rfl rfl ?_; (refine s_move (ev_int rfl) (by decide) ?_)) | (refine wl_guard_skipV (by decide) rfl rfl ?_)
          first | (refine wl_guard_skip (by decide) rfl rfl (by decide) ?_) | (refine wl_guard_take rfl rfl ?_; (first | refine s_lss_t rfl rfl (by omega) (by decide) ?_ | refine s_lss_f rfl rfl (by omega) (by decide) ?_ | refine s_lss_v rfl rfl (by decide) ?_)) | (refine wl_guard_skipV (by decide) rfl rfl ?_)
          first | refine s_pick_t rfl (ev_bool rfl) (by decide) ?_ | refine s_pick_f rfl (ev_bool rfl) (by decide) ?_
          refine s_move (ev_bool rfl) (by decide) ?_
          first | (refine wl_guard_skip (by decide) rfl rfl (by decide) ?_) | (refine wl_guard_take rfl rfl ?_; (refine s_move (ev_int rfl) (by decide) ?_)) | (refine wl_guard_skipV (by decide) rfl rfl ?_)
          first | (refine wl_guard_skip (by decide) rfl rfl (by decide) ?_) | (refine wl_guard_take rfl rfl ?_; (first | refine s_gtr_t rfl rfl (by omega) (by decide) ?_ | refine s_gtr_f rfl rfl (by omega) (by decide) ?_ | refine s_gtr_v rfl rfl (by decide) ?_)) | (refine wl_guard_skipV (by decide) rfl rfl ?_)
          first | refine s_pick_t rfl (ev_bool rfl) (by decide) ?_ | refine s_pick_f rfl (ev_bool rfl) (by decide) ?_
          refine wl_end ?_
          refine wc_cond_f rfl ?_
          refine wc_skip ?_
          refine k_then ?_
          refine wc_seq ?_
          refine wc_region ?_
          refine s_load (vs := [_, _, _]) TIs.out rfl (hh.rd_blk_at (i := 1) (n := 3) rfl rfl) rfl (by decide) ?_
          -- at some 21 := Op.call { callee := Callee.value (Operand.func 18), args := #[Operand.tmp 20], argTypes :=
          refine s_callf (yForm_calls a _ (by omega) (by omega) (by omega)) FnIs.out rfl (by decide) ?_
          rintro e_ w21 ⟨rfl, hb_⟩
          refine ⟨_, rfl, ?_⟩
          replace hh := hh.ext hb_
          refine wl_alloc hh TIs.out (by decide) ?_
          intro b7 w7 hh
          refine wl_store hh (i := 0) (vs := [_, _, _]) rfl rfl rfl rfl TIs.out rfl (by simp) rfl ?_
          intro ws hh
          replace hh : Hp _ (.blk _ _ [_, _, _] _ :: _) _ := hh
          refine wl_end ?_
          refine wc_seq ?_
          refine wc_seq ?_
          refine wc_region ?_
          refine s_load (vs := [_, _, _]) TIs.out rfl (hh.rd_blk_at (i := 2) (n := 3) rfl rfl) rfl (by decide) ?_
          -- at some 23 := Op.call { callee := Callee.value (Operand.func 19), args := #[Operand.tmp 22], argTypes :=
          refine s_callf (ySign_calls a _ (by omega)) FnIs.out rfl (by decide) ?_
          rintro e_ w23 ⟨rfl, hb_⟩
          refine ⟨_, rfl, ?_⟩
          replace hh := hh.ext hb_
          first | refine s_lss_t rfl rfl (by omega) (by decide) ?_ | refine s_lss_f rfl rfl (by omega) (by decide) ?_ | refine s_lss_v rfl rfl (by decide) ?_
          refine wl_end ?_
          refine wc_cond_t rfl ?_
          refine wc_region ?_
          refine s_load (vs := [_, _, _]) TIs.out rfl (hh.rd_blk_at (i := 2) (n := 3) rfl rfl) rfl (by decide) ?_
          -- at some 26 := Op.call { callee := Callee.value (Operand.func 20), args := #[Operand.tmp 25], argTypes :=
          refine s_callf (yNeg_calls a _ (by omega) (by omega) (by omega)) FnIs.out rfl (by decide) ?_
          rintro e_ w26 ⟨rfl, hb_⟩
          refine ⟨_, rfl, ?_⟩
          replace hh := hh.ext hb_
          refine wl_store hh (i := 0) (vs := [_, _, _]) rfl rfl rfl rfl TIs.out rfl (by simp) rfl ?_
          intro ws hh
          replace hh : Hp _ (.blk _ _ [_, _, _] _ :: _) _ := hh
          refine wl_end ?_
          refine wc_seq ?_
          -- at the drawn region 6
          refine wc_drawn2 [] [] [0, 1, 0, 7, 15, 31, 63, 127, 63, 511, 63, 1087, 63, 8191, 16383, 32767, 65535, 131071, 262143, 131071, 1048575, 2097151, 4194303, 8388607, 16777215, 33554431, 16777215, 134217727, 268435455, 536870911, 1073741823, 2147483647, 4294967295, 2147483647, 17179869183, 34359738367, 68719476735, 137438953471, 274877906943, 549755813887, 274877906943, 2199023255551, 4398046511103, 8796093022207, 17592186044415, 17592186044415, 70368744177663, 17592186044415, 17592186044415, 562949953421311, 1125899906842623, 2251799813685247, 4503599627370495, 9007199254740991, 18014398509481983, 36028797018963967] 49 [[(1, none)], [(27, some 0)], [(1, none)], [(29, some 2)], [(28, some 1), (30, some 3)], [(31, some 4)], [(3, none), (32, some 5)], [(33, some 6), (32, some 5)], [(2, none), (32, some 5)], [(34, some 7), (35, some 8), (32, some 5)], [(3, none), (32, some 5)], [(37, some 10), (32, some 5)], [(2, none), (32, some 5)], [(38, some 11), (39, some 12), (32, some 5)], [(36, some 9), (40, some 13), (32, some 5)], [(32, some 5), (41, some 14)], [(42, some 15)], [(3, none), (43, some 16)], [(44, some 17), (43, some 16)], [(3, none), (43, some 16)], [(46, some 19), (43, some 16)], [(45, some 18), (47, some 20), (43, some 16)], [(43, some 16), (48, some 21)], [(49, some 22)], [(3, none), (50, some 23)], [(51, some 24), (50, some 23)], [(3, none), (50, some 23)], [(53, some 26), (50, some 23)], [(52, some 25), (54, some 27), (50, some 23)], [(50, some 23), (55, some 28)], [(56, some 29)], [(3, none), (57, some 30)], [(58, some 31), (57, some 30)], [(3, none), (57, some 30)], [(60, some 33), (57, some 30)], [(59, some 32), (61, some 34), (57, some 30)], [(57, some 30), (62, some 35)], [(63, some 36)], [(3, none), (64, some 37)], [(65, some 38), (64, some 37)], [(7, none), (64, some 37)], [(66, some 39), (67, some 40), (64, some 37)], [(64, some 37), (68, some 41)], [(69, some 42)], [(3, none), (70, some 43)], [(2, none), (70, some 43)], [(71, some 44), (72, some 45), (70, some 43)], [(3, none), (70, some 43)], [(2, none), (70, some 43)]] [(48, 75), (47, 74), (46, 73), (45, 72), (44, 71), (43, 70), (42, 69), (41, 68), (40, 67), (39, 66), (38, 65), (37, 64), (36, 63), (35, 62), (34, 61), (33, 60), (32, 59), (31, 58), (30, 57), (29, 56), (28, 55), (27, 54), (26, 53), (25, 52), (24, 51), (23, 50), (22, 49), (21, 48), (20, 47), (19, 46), (18, 45), (17, 44), (16, 43), (15, 42), (14, 41), (13, 40), (12, 39), (11, 38), (10, 37), (9, 36), (8, 35), (7, 34), (6, 33), (5, 32), (4, 31), (3, 30), (2, 29), (1, 28), (0, 27)] hh mixed (by kernel_rfl) alok_nil rfl (by repeat (first | exact np_ret | refine np_then ?_ | refine np_blk ?_)) ?_
          refine dx_val (i := 0) (fun ρ1 w1 hj hR => x_move (show ρ1 1 = Value.int _ _ from hR.1)) ?_
          refine dx_call (i := 1) (fun ρ1 w1 hj hR => run_callf FnIs.out (evs_cons (show ρ1 27 = Value.int _ _ from hR.1) evs_nil)) (fun w1 hj => dOf_calls n _ (hT.hp hj.hp) hn1 hn2) ?_
          refine dx_val (i := 2) (fun ρ1 w1 hj hR => x_move (show ρ1 1 = Value.int _ _ from hR.1)) ?_
          refine dx_call (i := 3) (fun ρ1 w1 hj hR => run_callf FnIs.out (evs_cons (show ρ1 29 = Value.int _ _ from hR.1) evs_nil)) (fun w1 hj => yOf_calls n _ hn1 hn2) ?_
          first | refine dx_val (i := 4) (fun ρ1 w1 hj hR => x_eqN_t (show ρ1 28 = Value.agg (List.toArray _) from hR.1) (show ρ1 30 = Value.agg (List.toArray _) from hR.2.1) (by first | assumption | rfl)) ?_ | refine dx_val (i := 4) (fun ρ1 w1 hj hR => x_eqN_f (show ρ1 28 = Value.agg (List.toArray _) from hR.1) (show ρ1 30 = Value.agg (List.toArray _) from hR.2.1) (by assumption)) ?_
          refine dx_val (i := 5) (fun ρ1 w1 hj hR => x_move (show ρ1 31 = Value.bool _ from hR.1)) ?_
          first | refine dx_skip (i := 6) rfl (fun ρ1 w1 hj hR => (show ρ1 32 = Value.bool _ from hR.2.1)) (by decide) ?_ | refine dx_take (i := 6) rfl (fun ρ1 w1 hj hR => (show ρ1 32 = Value.bool _ from hR.2.1)) (fun ρ1 w1 hj hR => x_fieldAddr (off := 0) FIs.out (show ρ1 3 = Value.pointer _ from hR.1)) ?_
          first | refine dx_skip (i := 7) rfl (fun ρ1 w1 hj hR => (show ρ1 32 = Value.bool _ from hR.2.1)) (by decide) ?_ | refine dx_take (i := 7) rfl (fun ρ1 w1 hj hR => (show ρ1 32 = Value.bool _ from hR.2.1)) (fun ρ1 w1 hj hR => x_load (vs := [_, _]) TIs.out (show ρ1 33 = Value.pointer _ from hR.1) (hj.hp.rd_blk_at (i := 2) (n := 2) rfl rfl) rfl) ?_
          first | refine dx_skip (i := 8) rfl (fun ρ1 w1 hj hR => (show ρ1 32 = Value.bool _ from hR.2.1)) (by decide) ?_ | refine dx_take (i := 8) rfl (fun ρ1 w1 hj hR => (show ρ1 32 = Value.bool _ from hR.2.1)) (fun ρ1 w1 hj hR => x_move (show ρ1 2 = Value.int _ _ from hR.1)) ?_
          refine dx_take_call (i := 9) rfl (fun ρ1 w1 hj hR => (show ρ1 32 = Value.bool _ from hR.2.2.1)) (fun ρ1 w1 hj hR => run_callf FnIs.out (evs_cons (show ρ1 34 = Value.agg (List.toArray _) from hR.1) (evs_cons (show ρ1 35 = Value.int _ _ from hR.2.1) evs_nil))) (fun w1 hj => dMake_calls a.neg a.mag by' _ (hT.hp hj.hp) (by omega) (by omega) (by omega)) ?_
          first | refine dx_skip (i := 10) rfl (fun ρ1 w1 hj hR => (show ρ1 32 = Value.bool _ from hR.2.1)) (by decide) ?_ | refine dx_take (i := 10) rfl (fun ρ1 w1 hj hR => (show ρ1 32 = Value.bool _ from hR.2.1)) (fun ρ1 w1 hj hR => x_fieldAddr (off := 0) FIs.out (show ρ1 3 = Value.pointer _ from hR.1)) ?_
          first | refine dx_skip (i := 11) rfl (fun ρ1 w1 hj hR => (show ρ1 32 = Value.bool _ from hR.2.1)) (by decide) ?_ | refine dx_take (i := 11) rfl (fun ρ1 w1 hj hR => (show ρ1 32 = Value.bool _ from hR.2.1)) (fun ρ1 w1 hj hR => x_load (vs := [_, _]) TIs.out (show ρ1 37 = Value.pointer _ from hR.1) (hj.hp.rd_blk_at (i := 2) (n := 2) rfl rfl) rfl) ?_
          first | refine dx_skip (i := 12) rfl (fun ρ1 w1 hj hR => (show ρ1 32 = Value.bool _ from hR.2.1)) (by decide) ?_ | refine dx_take (i := 12) rfl (fun ρ1 w1 hj hR => (show ρ1 32 = Value.bool _ from hR.2.1)) (fun ρ1 w1 hj hR => x_move (show ρ1 2 = Value.int _ _ from hR.1)) ?_
          refine dx_take_call (i := 13) rfl (fun ρ1 w1 hj hR => (show ρ1 32 = Value.bool _ from hR.2.2.1)) (fun ρ1 w1 hj hR => run_callf FnIs.out (evs_cons (show ρ1 38 = Value.agg (List.toArray _) from hR.1) (evs_cons (show ρ1 39 = Value.int _ _ from hR.2.1) evs_nil))) (fun w1 hj => yMake_calls a.neg a.mag by' _ (by omega) (by omega) (by omega)) ?_
          first | refine dx_skip (i := 14) rfl (fun ρ1 w1 hj hR => (show ρ1 32 = Value.bool _ from hR.2.2.1)) (by decide) ?_ | refine dx_take (i := 14) rfl (fun ρ1 w1 hj hR => (show ρ1 32 = Value.bool _ from hR.2.2.1)) (fun ρ1 w1 hj hR => x_eqN_t (show ρ1 36 = Value.agg (List.toArray _) from hR.1) (show ρ1 40 = Value.agg (List.toArray _) from hR.2.1) (by first | assumption | rfl)) ?_ | refine dx_take (i := 14) rfl (fun ρ1 w1 hj hR => (show ρ1 32 = Value.bool _ from hR.2.2.1)) (fun ρ1 w1 hj hR => x_eqN_f (show ρ1 36 = Value.agg (List.toArray _) from hR.1) (show ρ1 40 = Value.agg (List.toArray _) from hR.2.1) (by assumption)) ?_
          first | refine dx_val (i := 15) (fun ρ1 w1 hj hR => x_pick_t (show ρ1 32 = Value.bool _ from hR.1) (show ρ1 41 = Value.bool _ from hR.2.1)) ?_ | refine dx_val (i := 15) (fun ρ1 w1 hj hR => x_pick_f (show ρ1 32 = Value.bool _ from hR.1) rfl) ?_
          refine dx_val (i := 16) (fun ρ1 w1 hj hR => x_move (show ρ1 42 = Value.bool _ from hR.1)) ?_
          first | refine dx_skip (i := 17) rfl (fun ρ1 w1 hj hR => (show ρ1 43 = Value.bool _ from hR.2.1)) (by decide) ?_ | refine dx_take (i := 17) rfl (fun ρ1 w1 hj hR => (show ρ1 43 = Value.bool _ from hR.2.1)) (fun ρ1 w1 hj hR => x_load (vs := [_, _, _]) TIs.out (show ρ1 3 = Value.pointer _ from hR.1) (hj.hp.rd_blk_at (i := 2) (n := 3) rfl rfl) rfl) ?_
          refine dx_take_call (i := 18) rfl (fun ρ1 w1 hj hR => (show ρ1 43 = Value.bool _ from hR.2.1)) (fun ρ1 w1 hj hR => run_callf FnIs.out (evs_cons (show ρ1 44 = Value.agg (List.toArray _) from hR.1) evs_nil)) (fun w1 hj => dForm_calls a _ (hT.hp hj.hp) (by omega) (by omega) (by omega)) ?_
          first | refine dx_skip (i := 19) rfl (fun ρ1 w1 hj hR => (show ρ1 43 = Value.bool _ from hR.2.1)) (by decide) ?_ | refine dx_take (i := 19) rfl (fun ρ1 w1 hj hR => (show ρ1 43 = Value.bool _ from hR.2.1)) (fun ρ1 w1 hj hR => x_load (vs := [_, _, _]) TIs.out (show ρ1 3 = Value.pointer _ from hR.1) (hj.hp.rd_blk_at (i := 2) (n := 3) rfl rfl) rfl) ?_
          refine dx_take_call (i := 20) rfl (fun ρ1 w1 hj hR => (show ρ1 43 = Value.bool _ from hR.2.1)) (fun ρ1 w1 hj hR => run_callf FnIs.out (evs_cons (show ρ1 46 = Value.agg (List.toArray _) from hR.1) evs_nil)) (fun w1 hj => yForm_calls a _ (by omega) (by omega) (by omega)) ?_
          first | refine dx_skip (i := 21) rfl (fun ρ1 w1 hj hR => (show ρ1 43 = Value.bool _ from hR.2.2.1)) (by decide) ?_ | refine dx_take (i := 21) rfl (fun ρ1 w1 hj hR => (show ρ1 43 = Value.bool _ from hR.2.2.1)) (fun ρ1 w1 hj hR => x_eqN_t (show ρ1 45 = Value.agg (List.toArray _) from hR.1) (show ρ1 47 = Value.agg (List.toArray _) from hR.2.1) (by first | assumption | rfl)) ?_ | refine dx_take (i := 21) rfl (fun ρ1 w1 hj hR => (show ρ1 43 = Value.bool _ from hR.2.2.1)) (fun ρ1 w1 hj hR => x_eqN_f (show ρ1 45 = Value.agg (List.toArray _) from hR.1) (show ρ1 47 = Value.agg (List.toArray _) from hR.2.1) (by assumption)) ?_
          first | refine dx_val (i := 22) (fun ρ1 w1 hj hR => x_pick_t (show ρ1 43 = Value.bool _ from hR.1) (show ρ1 48 = Value.bool _ from hR.2.1)) ?_ | refine dx_val (i := 22) (fun ρ1 w1 hj hR => x_pick_f (show ρ1 43 = Value.bool _ from hR.1) rfl) ?_
          refine dx_val (i := 23) (fun ρ1 w1 hj hR => x_move (show ρ1 49 = Value.bool _ from hR.1)) ?_
          first | refine dx_skip (i := 24) rfl (fun ρ1 w1 hj hR => (show ρ1 50 = Value.bool _ from hR.2.1)) (by decide) ?_ | refine dx_take (i := 24) rfl (fun ρ1 w1 hj hR => (show ρ1 50 = Value.bool _ from hR.2.1)) (fun ρ1 w1 hj hR => x_load (vs := [_, _, _]) TIs.out (show ρ1 3 = Value.pointer _ from hR.1) (hj.hp.rd_blk_at (i := 2) (n := 3) rfl rfl) rfl) ?_
          refine dx_take_call (i := 25) rfl (fun ρ1 w1 hj hR => (show ρ1 50 = Value.bool _ from hR.2.1)) (fun ρ1 w1 hj hR => run_callf FnIs.out (evs_cons (show ρ1 51 = Value.agg (List.toArray _) from hR.1) evs_nil)) (fun w1 hj => dSign_calls a _) ?_
          first | refine dx_skip (i := 26) rfl (fun ρ1 w1 hj hR => (show ρ1 50 = Value.bool _ from hR.2.1)) (by decide) ?_ | refine dx_take (i := 26) rfl (fun ρ1 w1 hj hR => (show ρ1 50 = Value.bool _ from hR.2.1)) (fun ρ1 w1 hj hR => x_load (vs := [_, _, _]) TIs.out (show ρ1 3 = Value.pointer _ from hR.1) (hj.hp.rd_blk_at (i := 2) (n := 3) rfl rfl) rfl) ?_
          refine dx_take_call (i := 27) rfl (fun ρ1 w1 hj hR => (show ρ1 50 = Value.bool _ from hR.2.1)) (fun ρ1 w1 hj hR => run_callf FnIs.out (evs_cons (show ρ1 53 = Value.agg (List.toArray _) from hR.1) evs_nil)) (fun w1 hj => ySign_calls a _ (by omega)) ?_
          first | refine dx_skip (i := 28) rfl (fun ρ1 w1 hj hR => (show ρ1 50 = Value.bool _ from hR.2.2.1)) (by decide) ?_ | refine dx_take (i := 28) rfl (fun ρ1 w1 hj hR => (show ρ1 50 = Value.bool _ from hR.2.2.1)) (fun ρ1 w1 hj hR => x_eql_t (show ρ1 52 = Value.int _ _ from hR.1) (show ρ1 54 = Value.int _ _ from hR.2.1) (by omega)) ?_ | refine dx_take (i := 28) rfl (fun ρ1 w1 hj hR => (show ρ1 50 = Value.bool _ from hR.2.2.1)) (fun ρ1 w1 hj hR => x_eql_f (show ρ1 52 = Value.int _ _ from hR.1) (show ρ1 54 = Value.int _ _ from hR.2.1) (by omega)) ?_ | refine dx_take (i := 28) rfl (fun ρ1 w1 hj hR => (show ρ1 50 = Value.bool _ from hR.2.2.1)) (fun ρ1 w1 hj hR => x_eql_v (show ρ1 52 = Value.int _ _ from hR.1) (show ρ1 54 = Value.int _ _ from hR.2.1)) ?_
          first | refine dx_val (i := 29) (fun ρ1 w1 hj hR => x_pick_t (show ρ1 50 = Value.bool _ from hR.1) (show ρ1 55 = Value.bool _ from hR.2.1)) ?_ | refine dx_val (i := 29) (fun ρ1 w1 hj hR => x_pick_f (show ρ1 50 = Value.bool _ from hR.1) rfl) ?_
          refine dx_val (i := 30) (fun ρ1 w1 hj hR => x_move (show ρ1 56 = Value.bool _ from hR.1)) ?_
          first | refine dx_skip (i := 31) rfl (fun ρ1 w1 hj hR => (show ρ1 57 = Value.bool _ from hR.2.1)) (by decide) ?_ | refine dx_take (i := 31) rfl (fun ρ1 w1 hj hR => (show ρ1 57 = Value.bool _ from hR.2.1)) (fun ρ1 w1 hj hR => x_load (vs := [_, _, _]) TIs.out (show ρ1 3 = Value.pointer _ from hR.1) (hj.hp.rd_blk_at (i := 2) (n := 3) rfl rfl) rfl) ?_
          refine dx_take_call (i := 32) rfl (fun ρ1 w1 hj hR => (show ρ1 57 = Value.bool _ from hR.2.1)) (fun ρ1 w1 hj hR => run_callf FnIs.out (evs_cons (show ρ1 58 = Value.agg (List.toArray _) from hR.1) evs_nil)) (fun w1 hj => dNeg_calls a _ (hT.hp hj.hp) (by omega) (by omega) (by omega)) ?_
          first | refine dx_skip (i := 33) rfl (fun ρ1 w1 hj hR => (show ρ1 57 = Value.bool _ from hR.2.1)) (by decide) ?_ | refine dx_take (i := 33) rfl (fun ρ1 w1 hj hR => (show ρ1 57 = Value.bool _ from hR.2.1)) (fun ρ1 w1 hj hR => x_load (vs := [_, _, _]) TIs.out (show ρ1 3 = Value.pointer _ from hR.1) (hj.hp.rd_blk_at (i := 2) (n := 3) rfl rfl) rfl) ?_
          refine dx_take_call (i := 34) rfl (fun ρ1 w1 hj hR => (show ρ1 57 = Value.bool _ from hR.2.1)) (fun ρ1 w1 hj hR => run_callf FnIs.out (evs_cons (show ρ1 60 = Value.agg (List.toArray _) from hR.1) evs_nil)) (fun w1 hj => yNeg_calls a _ (by omega) (by omega) (by omega)) ?_
          first | refine dx_skip (i := 35) rfl (fun ρ1 w1 hj hR => (show ρ1 57 = Value.bool _ from hR.2.2.1)) (by decide) ?_ | refine dx_take (i := 35) rfl (fun ρ1 w1 hj hR => (show ρ1 57 = Value.bool _ from hR.2.2.1)) (fun ρ1 w1 hj hR => x_eqN_t (show ρ1 59 = Value.agg (List.toArray _) from hR.1) (show ρ1 61 = Value.agg (List.toArray _) from hR.2.1) (by first | assumption | rfl)) ?_ | refine dx_take (i := 35) rfl (fun ρ1 w1 hj hR => (show ρ1 57 = Value.bool _ from hR.2.2.1)) (fun ρ1 w1 hj hR => x_eqN_f (show ρ1 59 = Value.agg (List.toArray _) from hR.1) (show ρ1 61 = Value.agg (List.toArray _) from hR.2.1) (by assumption)) ?_
          first | refine dx_val (i := 36) (fun ρ1 w1 hj hR => x_pick_t (show ρ1 57 = Value.bool _ from hR.1) (show ρ1 62 = Value.bool _ from hR.2.1)) ?_ | refine dx_val (i := 36) (fun ρ1 w1 hj hR => x_pick_f (show ρ1 57 = Value.bool _ from hR.1) rfl) ?_
          refine dx_val (i := 37) (fun ρ1 w1 hj hR => x_move (show ρ1 63 = Value.bool _ from hR.1)) ?_
          first | refine dx_skip (i := 38) rfl (fun ρ1 w1 hj hR => (show ρ1 64 = Value.bool _ from hR.2.1)) (by decide) ?_ | refine dx_take (i := 38) rfl (fun ρ1 w1 hj hR => (show ρ1 64 = Value.bool _ from hR.2.1)) (fun ρ1 w1 hj hR => x_load (vs := [_, _, _]) TIs.out (show ρ1 3 = Value.pointer _ from hR.1) (hj.hp.rd_blk_at (i := 2) (n := 3) rfl rfl) rfl) ?_
          refine dx_take_call (i := 39) rfl (fun ρ1 w1 hj hR => (show ρ1 64 = Value.bool _ from hR.2.1)) (fun ρ1 w1 hj hR => run_callf FnIs.out (evs_cons (show ρ1 65 = Value.agg (List.toArray _) from hR.1) evs_nil)) (fun w1 hj => hab _ (hT.hp hj.hp)) ?_
          first | refine dx_skip (i := 40) rfl (fun ρ1 w1 hj hR => (show ρ1 64 = Value.bool _ from hR.2.1)) (by decide) ?_ | refine dx_take (i := 40) rfl (fun ρ1 w1 hj hR => (show ρ1 64 = Value.bool _ from hR.2.1)) (fun ρ1 w1 hj hR => x_load (vs := [_, _, _]) TIs.out (show ρ1 7 = Value.pointer _ from hR.1) (hj.hp.rd_blk_at (i := 0) (n := 3) rfl rfl) rfl) ?_
          first | refine dx_skip (i := 41) rfl (fun ρ1 w1 hj hR => (show ρ1 64 = Value.bool _ from hR.2.2.1)) (by decide) ?_ | refine dx_take (i := 41) rfl (fun ρ1 w1 hj hR => (show ρ1 64 = Value.bool _ from hR.2.2.1)) (fun ρ1 w1 hj hR => x_eqN_t (show ρ1 66 = Value.agg (List.toArray _) from hR.1) (show ρ1 67 = Value.agg (List.toArray _) from hR.2.1) (by first | assumption | rfl)) ?_ | refine dx_take (i := 41) rfl (fun ρ1 w1 hj hR => (show ρ1 64 = Value.bool _ from hR.2.2.1)) (fun ρ1 w1 hj hR => x_eqN_f (show ρ1 66 = Value.agg (List.toArray _) from hR.1) (show ρ1 67 = Value.agg (List.toArray _) from hR.2.1) (by assumption)) ?_
          first | refine dx_val (i := 42) (fun ρ1 w1 hj hR => x_pick_t (show ρ1 64 = Value.bool _ from hR.1) (show ρ1 68 = Value.bool _ from hR.2.1)) ?_ | refine dx_val (i := 42) (fun ρ1 w1 hj hR => x_pick_f (show ρ1 64 = Value.bool _ from hR.1) rfl) ?_
          refine dx_val (i := 43) (fun ρ1 w1 hj hR => x_move (show ρ1 69 = Value.bool _ from hR.1)) ?_
          first | refine dx_skip (i := 44) rfl (fun ρ1 w1 hj hR => (show ρ1 70 = Value.bool _ from hR.2.1)) (by decide) ?_ | refine dx_take (i := 44) rfl (fun ρ1 w1 hj hR => (show ρ1 70 = Value.bool _ from hR.2.1)) (fun ρ1 w1 hj hR => x_load (vs := [_, _, _]) TIs.out (show ρ1 3 = Value.pointer _ from hR.1) (hj.hp.rd_blk_at (i := 2) (n := 3) rfl rfl) rfl) ?_
          first | refine dx_skip (i := 45) rfl (fun ρ1 w1 hj hR => (show ρ1 70 = Value.bool _ from hR.2.1)) (by decide) ?_ | refine dx_take (i := 45) rfl (fun ρ1 w1 hj hR => (show ρ1 70 = Value.bool _ from hR.2.1)) (fun ρ1 w1 hj hR => x_move (show ρ1 2 = Value.int _ _ from hR.1)) ?_
          refine dx_take_call (i := 46) rfl (fun ρ1 w1 hj hR => (show ρ1 70 = Value.bool _ from hR.2.2.1)) (fun ρ1 w1 hj hR => run_callf FnIs.out (evs_cons (show ρ1 71 = Value.agg (List.toArray _) from hR.1) (evs_cons (show ρ1 72 = Value.int _ _ from hR.2.1) evs_nil))) (fun w1 hj => dShift_calls a by' _ (hT.hp hj.hp) (by omega) (by omega) (by omega) (by omega) (by omega)) ?_
          first | refine dx_skip (i := 47) rfl (fun ρ1 w1 hj hR => (show ρ1 70 = Value.bool _ from hR.2.1)) (by decide) ?_ | refine dx_take (i := 47) rfl (fun ρ1 w1 hj hR => (show ρ1 70 = Value.bool _ from hR.2.1)) (fun ρ1 w1 hj hR => x_load (vs := [_, _, _]) TIs.out (show ρ1 3 = Value.pointer _ from hR.1) (hj.hp.rd_blk_at (i := 2) (n := 3) rfl rfl) rfl) ?_
          first | refine dx_skip (i := 48) rfl (fun ρ1 w1 hj hR => (show ρ1 70 = Value.bool _ from hR.2.1)) (by decide) ?_ | refine dx_take (i := 48) rfl (fun ρ1 w1 hj hR => (show ρ1 70 = Value.bool _ from hR.2.1)) (fun ρ1 w1 hj hR => x_move (show ρ1 2 = Value.int _ _ from hR.1)) ?_
          refine dx_nil ?_
          intro f W hJ hV _
          have hb_6 := hJ.bl
          obtain ⟨v75, v74, v73, v72, v71, v70, v69, v68, v67, v66, v65, v64, v63, v62, v61, v60, v59, v58, v57, v56, v55, v54, v53, v52, v51, v50, v49, v48, v47, v46, v45, v44, v43, v42, v41, v40, v39, v38, v37, v36, v35, v34, v33, v32, v31, v30, v29, v28, v27, _⟩ := hV
          have e27 : f 0 = _ := v27
          have e28 : f 1 = _ := v28
          have e29 : f 2 = _ := v29
          have e30 : f 3 = _ := v30
          have e31 : f 4 = _ := v31
          have e32 : f 5 = _ := v32
          have e33 : f 6 = _ := v33
          have e34 : f 7 = _ := v34
          have e35 : f 8 = _ := v35
          have e36 : f 9 = _ := v36
          have e37 : f 10 = _ := v37
          have e38 : f 11 = _ := v38
          have e39 : f 12 = _ := v39
          have e40 : f 13 = _ := v40
          have e41 : f 14 = _ := v41
          have e42 : f 15 = _ := v42
          have e43 : f 16 = _ := v43
          have e44 : f 17 = _ := v44
          have e45 : f 18 = _ := v45
          have e46 : f 19 = _ := v46
          have e47 : f 20 = _ := v47
          have e48 : f 21 = _ := v48
          have e49 : f 22 = _ := v49
          have e50 : f 23 = _ := v50
          have e51 : f 24 = _ := v51
          have e52 : f 25 = _ := v52
          have e53 : f 26 = _ := v53
          have e54 : f 27 = _ := v54
          have e55 : f 28 = _ := v55
          have e56 : f 29 = _ := v56
          have e57 : f 30 = _ := v57
          have e58 : f 31 = _ := v58
          have e59 : f 32 = _ := v59
          have e60 : f 33 = _ := v60
          have e61 : f 34 = _ := v61
          have e62 : f 35 = _ := v62
          have e63 : f 36 = _ := v63
          have e64 : f 37 = _ := v64
          have e65 : f 38 = _ := v65
          have e66 : f 39 = _ := v66
          have e67 : f 40 = _ := v67
          have e68 : f 41 = _ := v68
          have e69 : f 42 = _ := v69
          have e70 : f 43 = _ := v70
          have e71 : f 44 = _ := v71
          have e72 : f 45 = _ := v72
          have e73 : f 46 = _ := v73
          have e74 : f 47 = _ := v74
          have e75 : f 48 = _ := v75
          replace hh := hJ.hp
          refine wl_cast (updL_K (eql_cons e75 (eql_cons e74 (eql_cons e73 (eql_cons e72 (eql_cons e71 (eql_cons e70 (eql_cons e69 (eql_cons e68 (eql_cons e67 (eql_cons e66 (eql_cons e65 (eql_cons e64 (eql_cons e63 (eql_cons e62 (eql_cons e61 (eql_cons e60 (eql_cons e59 (eql_cons e58 (eql_cons e57 (eql_cons e56 (eql_cons e55 (eql_cons e54 (eql_cons e53 (eql_cons e52 (eql_cons e51 (eql_cons e50 (eql_cons e49 (eql_cons e48 (eql_cons e47 (eql_cons e46 (eql_cons e45 (eql_cons e44 (eql_cons e43 (eql_cons e42 (eql_cons e41 (eql_cons e40 (eql_cons e39 (eql_cons e38 (eql_cons e37 (eql_cons e36 (eql_cons e35 (eql_cons e34 (eql_cons e33 (eql_cons e32 (eql_cons e31 (eql_cons e30 (eql_cons e29 (eql_cons e28 (eql_cons e27 eql_nil)))))))))))))))))))))))))))))))))))))))))))))))))) ?_
          dsimp only [updK]
          clear e27 e28 e29 e30 e31 e32 e33 e34 e35 e36 e37 e38 e39 e40 e41 e42 e43 e44 e45 e46 e47 e48 e49 e50 e51 e52 e53 e54 e55 e56 e57 e58 e59 e60 e61 e62 e63 e64 e65 e66 e67 e68 e69 e70 e71 e72 e73 e74 e75 hJ
          -- at guarded Op.call { callee := Callee.value (Operand.func 30), args := #[Operand.tmp 74, Op
          refine wl_guard_take rfl rfl ?_
          refine s_callf (yShift_calls a by' _ (by omega) (by omega) (by omega) (by omega) (by omega)) FnIs.out rfl (by decide) ?_
          rintro e_ w76 ⟨rfl, hb_⟩
          refine ⟨_, rfl, ?_⟩
          replace hh := hh.ext hb_
          first | (refine wl_guard_skip (by decide) rfl rfl (by decide) ?_) | (refine wl_guard_take rfl rfl ?_; (first | refine s_eqN_t rfl rfl (by first | assumption | rfl) (by decide) ?_ | refine s_eqN_f rfl rfl (by assumption) (by decide) ?_)) | (refine wl_guard_skipV (by decide) rfl rfl ?_)
          first | refine s_pick_t rfl (ev_bool rfl) (by decide) ?_ | refine s_pick_f rfl (ev_bool rfl) (by decide) ?_
          refine s_move (ev_bool rfl) (by decide) ?_
          -- at guarded Op.call { callee := Callee.value (Operand.func 9), args := #[], argTypes := #[] 
          refine wl_guard_take rfl rfl ?_
          refine s_callf (awake_calls _ (hT.hp hh)) FnIs.out rfl (by decide) ?_
          rintro e_ w80 ⟨rfl, hb_⟩
          refine ⟨_, rfl, ?_⟩
          replace hh := hh.ext hb_
          first | refine s_pick_t rfl (ev_bool rfl) (by decide) ?_ | refine s_pick_f rfl (ev_bool rfl) (by decide) ?_
          refine s_assign (ev_bool rfl) (by decide) ?_
          refine wl_end ?_
          refine wc_ret ?_
          -- at ('end', 'ret')
          refine ret1 (by first | exact .inr rfl | exact .inl rfl) rfl (v_bool rfl) ?_
          exact ⟨rfl, hh.below⟩
        · have hs2 : ¬ a.i.sign < 0 := by rw [hs, cmpD, if_neg h0]; split <;> omega
          simp only [if_neg h0] at hab
          refine calls_vc (N := 82) (l := [.agg #[.bool a.neg, .string a.mag, .int .i64 a.e], .int .i64 n, .int .i64 by']) Tryz.func5 rfl rfl (by simp) ?_
          refine wc_seq ?_
          refine wc_region ?_
          refine wl_box hh (cs := [_, _, _]) rfl rfl (by decide) ?_
          intro b3 w3 hh
          refine s_assign (ev_bool rfl) (by decide) ?_
          refine wl_end ?_
          refine wc_seq ?_
          refine wc_seq ?_
          refine wc_region ?_
          refine s_load (vs := [_, _, _]) TIs.out rfl (hh.rd_blk_at (i := 0) (n := 3) rfl rfl) rfl (by decide) ?_
          refine wl_buildSlice hh (cs := [_, _, _]) UIs.out TIs.out (evp_cons (ev_agg rfl) evp_nil) rfl rfl (by decide) (by decide) (by decide) rfl (by decide) ?_
          intro b9 w9 hh
          -- at some 10 := Op.call { callee := Callee.value (Operand.func 8), args := #[Operand.const (Value.int IntK
          refine s_callf (long_calls 60 500 _ 1 _ [a] _ (hh.sl_row (i := 0) rfl) (by omega) (by omega) (by omega)) FnIs.out rfl (by decide) ?_
          rintro e_ w10 ⟨rfl, hb_⟩
          refine ⟨_, rfl, ?_⟩
          replace hh := hh.ext hb_
          rw [hlg]
          refine s_move (ev_bool rfl) (by decide) ?_
          first | (refine wl_guard_skip (by decide) rfl rfl (by decide) ?_) | (refine wl_guard_take rfl rfl ?_; (refine s_move (ev_int rfl) (by decide) ?_)) | (refine wl_guard_skipV (by decide) rfl rfl ?_)
          first | (refine wl_guard_skip (by decide) rfl rfl (by decide) ?_) | (refine wl_guard_take rfl rfl ?_; (first | refine s_lss_t rfl rfl (by omega) (by decide) ?_ | refine s_lss_f rfl rfl (by omega) (by decide) ?_ | refine s_lss_v rfl rfl (by decide) ?_)) | (refine wl_guard_skipV (by decide) rfl rfl ?_)
          first | refine s_pick_t rfl (ev_bool rfl) (by decide) ?_ | refine s_pick_f rfl (ev_bool rfl) (by decide) ?_
          refine s_move (ev_bool rfl) (by decide) ?_
          first | (refine wl_guard_skip (by decide) rfl rfl (by decide) ?_) | (refine wl_guard_take rfl rfl ?_; (refine s_move (ev_int rfl) (by decide) ?_)) | (refine wl_guard_skipV (by decide) rfl rfl ?_)
          first | (refine wl_guard_skip (by decide) rfl rfl (by decide) ?_) | (refine wl_guard_take rfl rfl ?_; (first | refine s_gtr_t rfl rfl (by omega) (by decide) ?_ | refine s_gtr_f rfl rfl (by omega) (by decide) ?_ | refine s_gtr_v rfl rfl (by decide) ?_)) | (refine wl_guard_skipV (by decide) rfl rfl ?_)
          first | refine s_pick_t rfl (ev_bool rfl) (by decide) ?_ | refine s_pick_f rfl (ev_bool rfl) (by decide) ?_
          refine wl_end ?_
          refine wc_cond_f rfl ?_
          refine wc_skip ?_
          refine k_then ?_
          refine wc_seq ?_
          refine wc_region ?_
          refine s_load (vs := [_, _, _]) TIs.out rfl (hh.rd_blk_at (i := 1) (n := 3) rfl rfl) rfl (by decide) ?_
          -- at some 21 := Op.call { callee := Callee.value (Operand.func 18), args := #[Operand.tmp 20], argTypes :=
          refine s_callf (yForm_calls a _ (by omega) (by omega) (by omega)) FnIs.out rfl (by decide) ?_
          rintro e_ w21 ⟨rfl, hb_⟩
          refine ⟨_, rfl, ?_⟩
          replace hh := hh.ext hb_
          refine wl_alloc hh TIs.out (by decide) ?_
          intro b7 w7 hh
          refine wl_store hh (i := 0) (vs := [_, _, _]) rfl rfl rfl rfl TIs.out rfl (by simp) rfl ?_
          intro ws hh
          replace hh : Hp _ (.blk _ _ [_, _, _] _ :: _) _ := hh
          refine wl_end ?_
          refine wc_seq ?_
          refine wc_seq ?_
          refine wc_region ?_
          refine s_load (vs := [_, _, _]) TIs.out rfl (hh.rd_blk_at (i := 2) (n := 3) rfl rfl) rfl (by decide) ?_
          -- at some 23 := Op.call { callee := Callee.value (Operand.func 19), args := #[Operand.tmp 22], argTypes :=
          refine s_callf (ySign_calls a _ (by omega)) FnIs.out rfl (by decide) ?_
          rintro e_ w23 ⟨rfl, hb_⟩
          refine ⟨_, rfl, ?_⟩
          replace hh := hh.ext hb_
          first | refine s_lss_t rfl rfl (by omega) (by decide) ?_ | refine s_lss_f rfl rfl (by omega) (by decide) ?_ | refine s_lss_v rfl rfl (by decide) ?_
          refine wl_end ?_
          refine wc_cond_f rfl ?_
          refine wc_skip ?_
          refine k_then ?_
          refine wc_seq ?_
          -- at the drawn region 6
          -- at the drawn region 6
          refine wc_drawn2 [] [] [0, 1, 0, 7, 15, 31, 63, 127, 63, 511, 63, 1087, 63, 8191, 16383, 32767, 65535, 131071, 262143, 131071, 1048575, 2097151, 4194303, 8388607, 16777215, 33554431, 16777215, 134217727, 268435455, 536870911, 1073741823, 2147483647, 4294967295, 2147483647, 17179869183, 34359738367, 68719476735, 137438953471, 274877906943, 549755813887, 274877906943, 2199023255551, 4398046511103, 8796093022207, 17592186044415, 17592186044415, 70368744177663, 17592186044415, 17592186044415, 562949953421311, 1125899906842623, 2251799813685247, 4503599627370495, 9007199254740991, 18014398509481983, 36028797018963967] 49 [[(1, none)], [(27, some 0)], [(1, none)], [(29, some 2)], [(28, some 1), (30, some 3)], [(31, some 4)], [(3, none), (32, some 5)], [(33, some 6), (32, some 5)], [(2, none), (32, some 5)], [(34, some 7), (35, some 8), (32, some 5)], [(3, none), (32, some 5)], [(37, some 10), (32, some 5)], [(2, none), (32, some 5)], [(38, some 11), (39, some 12), (32, some 5)], [(36, some 9), (40, some 13), (32, some 5)], [(32, some 5), (41, some 14)], [(42, some 15)], [(3, none), (43, some 16)], [(44, some 17), (43, some 16)], [(3, none), (43, some 16)], [(46, some 19), (43, some 16)], [(45, some 18), (47, some 20), (43, some 16)], [(43, some 16), (48, some 21)], [(49, some 22)], [(3, none), (50, some 23)], [(51, some 24), (50, some 23)], [(3, none), (50, some 23)], [(53, some 26), (50, some 23)], [(52, some 25), (54, some 27), (50, some 23)], [(50, some 23), (55, some 28)], [(56, some 29)], [(3, none), (57, some 30)], [(58, some 31), (57, some 30)], [(3, none), (57, some 30)], [(60, some 33), (57, some 30)], [(59, some 32), (61, some 34), (57, some 30)], [(57, some 30), (62, some 35)], [(63, some 36)], [(3, none), (64, some 37)], [(65, some 38), (64, some 37)], [(7, none), (64, some 37)], [(66, some 39), (67, some 40), (64, some 37)], [(64, some 37), (68, some 41)], [(69, some 42)], [(3, none), (70, some 43)], [(2, none), (70, some 43)], [(71, some 44), (72, some 45), (70, some 43)], [(3, none), (70, some 43)], [(2, none), (70, some 43)]] [(48, 75), (47, 74), (46, 73), (45, 72), (44, 71), (43, 70), (42, 69), (41, 68), (40, 67), (39, 66), (38, 65), (37, 64), (36, 63), (35, 62), (34, 61), (33, 60), (32, 59), (31, 58), (30, 57), (29, 56), (28, 55), (27, 54), (26, 53), (25, 52), (24, 51), (23, 50), (22, 49), (21, 48), (20, 47), (19, 46), (18, 45), (17, 44), (16, 43), (15, 42), (14, 41), (13, 40), (12, 39), (11, 38), (10, 37), (9, 36), (8, 35), (7, 34), (6, 33), (5, 32), (4, 31), (3, 30), (2, 29), (1, 28), (0, 27)] hh mixed (by kernel_rfl) alok_nil rfl (by repeat (first | exact np_ret | refine np_then ?_ | refine np_blk ?_)) ?_
          refine dx_val (i := 0) (fun ρ1 w1 hj hR => x_move (show ρ1 1 = Value.int _ _ from hR.1)) ?_
          refine dx_call (i := 1) (fun ρ1 w1 hj hR => run_callf FnIs.out (evs_cons (show ρ1 27 = Value.int _ _ from hR.1) evs_nil)) (fun w1 hj => dOf_calls n _ (hT.hp hj.hp) hn1 hn2) ?_
          refine dx_val (i := 2) (fun ρ1 w1 hj hR => x_move (show ρ1 1 = Value.int _ _ from hR.1)) ?_
          refine dx_call (i := 3) (fun ρ1 w1 hj hR => run_callf FnIs.out (evs_cons (show ρ1 29 = Value.int _ _ from hR.1) evs_nil)) (fun w1 hj => yOf_calls n _ hn1 hn2) ?_
          first | refine dx_val (i := 4) (fun ρ1 w1 hj hR => x_eqN_t (show ρ1 28 = Value.agg (List.toArray _) from hR.1) (show ρ1 30 = Value.agg (List.toArray _) from hR.2.1) (by first | assumption | rfl)) ?_ | refine dx_val (i := 4) (fun ρ1 w1 hj hR => x_eqN_f (show ρ1 28 = Value.agg (List.toArray _) from hR.1) (show ρ1 30 = Value.agg (List.toArray _) from hR.2.1) (by assumption)) ?_
          refine dx_val (i := 5) (fun ρ1 w1 hj hR => x_move (show ρ1 31 = Value.bool _ from hR.1)) ?_
          first | refine dx_skip (i := 6) rfl (fun ρ1 w1 hj hR => (show ρ1 32 = Value.bool _ from hR.2.1)) (by decide) ?_ | refine dx_take (i := 6) rfl (fun ρ1 w1 hj hR => (show ρ1 32 = Value.bool _ from hR.2.1)) (fun ρ1 w1 hj hR => x_fieldAddr (off := 0) FIs.out (show ρ1 3 = Value.pointer _ from hR.1)) ?_
          first | refine dx_skip (i := 7) rfl (fun ρ1 w1 hj hR => (show ρ1 32 = Value.bool _ from hR.2.1)) (by decide) ?_ | refine dx_take (i := 7) rfl (fun ρ1 w1 hj hR => (show ρ1 32 = Value.bool _ from hR.2.1)) (fun ρ1 w1 hj hR => x_load (vs := [_, _]) TIs.out (show ρ1 33 = Value.pointer _ from hR.1) (hj.hp.rd_blk_at (i := 2) (n := 2) rfl rfl) rfl) ?_
          first | refine dx_skip (i := 8) rfl (fun ρ1 w1 hj hR => (show ρ1 32 = Value.bool _ from hR.2.1)) (by decide) ?_ | refine dx_take (i := 8) rfl (fun ρ1 w1 hj hR => (show ρ1 32 = Value.bool _ from hR.2.1)) (fun ρ1 w1 hj hR => x_move (show ρ1 2 = Value.int _ _ from hR.1)) ?_
          refine dx_take_call (i := 9) rfl (fun ρ1 w1 hj hR => (show ρ1 32 = Value.bool _ from hR.2.2.1)) (fun ρ1 w1 hj hR => run_callf FnIs.out (evs_cons (show ρ1 34 = Value.agg (List.toArray _) from hR.1) (evs_cons (show ρ1 35 = Value.int _ _ from hR.2.1) evs_nil))) (fun w1 hj => dMake_calls a.neg a.mag by' _ (hT.hp hj.hp) (by omega) (by omega) (by omega)) ?_
          first | refine dx_skip (i := 10) rfl (fun ρ1 w1 hj hR => (show ρ1 32 = Value.bool _ from hR.2.1)) (by decide) ?_ | refine dx_take (i := 10) rfl (fun ρ1 w1 hj hR => (show ρ1 32 = Value.bool _ from hR.2.1)) (fun ρ1 w1 hj hR => x_fieldAddr (off := 0) FIs.out (show ρ1 3 = Value.pointer _ from hR.1)) ?_
          first | refine dx_skip (i := 11) rfl (fun ρ1 w1 hj hR => (show ρ1 32 = Value.bool _ from hR.2.1)) (by decide) ?_ | refine dx_take (i := 11) rfl (fun ρ1 w1 hj hR => (show ρ1 32 = Value.bool _ from hR.2.1)) (fun ρ1 w1 hj hR => x_load (vs := [_, _]) TIs.out (show ρ1 37 = Value.pointer _ from hR.1) (hj.hp.rd_blk_at (i := 2) (n := 2) rfl rfl) rfl) ?_
          first | refine dx_skip (i := 12) rfl (fun ρ1 w1 hj hR => (show ρ1 32 = Value.bool _ from hR.2.1)) (by decide) ?_ | refine dx_take (i := 12) rfl (fun ρ1 w1 hj hR => (show ρ1 32 = Value.bool _ from hR.2.1)) (fun ρ1 w1 hj hR => x_move (show ρ1 2 = Value.int _ _ from hR.1)) ?_
          refine dx_take_call (i := 13) rfl (fun ρ1 w1 hj hR => (show ρ1 32 = Value.bool _ from hR.2.2.1)) (fun ρ1 w1 hj hR => run_callf FnIs.out (evs_cons (show ρ1 38 = Value.agg (List.toArray _) from hR.1) (evs_cons (show ρ1 39 = Value.int _ _ from hR.2.1) evs_nil))) (fun w1 hj => yMake_calls a.neg a.mag by' _ (by omega) (by omega) (by omega)) ?_
          first | refine dx_skip (i := 14) rfl (fun ρ1 w1 hj hR => (show ρ1 32 = Value.bool _ from hR.2.2.1)) (by decide) ?_ | refine dx_take (i := 14) rfl (fun ρ1 w1 hj hR => (show ρ1 32 = Value.bool _ from hR.2.2.1)) (fun ρ1 w1 hj hR => x_eqN_t (show ρ1 36 = Value.agg (List.toArray _) from hR.1) (show ρ1 40 = Value.agg (List.toArray _) from hR.2.1) (by first | assumption | rfl)) ?_ | refine dx_take (i := 14) rfl (fun ρ1 w1 hj hR => (show ρ1 32 = Value.bool _ from hR.2.2.1)) (fun ρ1 w1 hj hR => x_eqN_f (show ρ1 36 = Value.agg (List.toArray _) from hR.1) (show ρ1 40 = Value.agg (List.toArray _) from hR.2.1) (by assumption)) ?_
          first | refine dx_val (i := 15) (fun ρ1 w1 hj hR => x_pick_t (show ρ1 32 = Value.bool _ from hR.1) (show ρ1 41 = Value.bool _ from hR.2.1)) ?_ | refine dx_val (i := 15) (fun ρ1 w1 hj hR => x_pick_f (show ρ1 32 = Value.bool _ from hR.1) rfl) ?_
          refine dx_val (i := 16) (fun ρ1 w1 hj hR => x_move (show ρ1 42 = Value.bool _ from hR.1)) ?_
          first | refine dx_skip (i := 17) rfl (fun ρ1 w1 hj hR => (show ρ1 43 = Value.bool _ from hR.2.1)) (by decide) ?_ | refine dx_take (i := 17) rfl (fun ρ1 w1 hj hR => (show ρ1 43 = Value.bool _ from hR.2.1)) (fun ρ1 w1 hj hR => x_load (vs := [_, _, _]) TIs.out (show ρ1 3 = Value.pointer _ from hR.1) (hj.hp.rd_blk_at (i := 2) (n := 3) rfl rfl) rfl) ?_
          refine dx_take_call (i := 18) rfl (fun ρ1 w1 hj hR => (show ρ1 43 = Value.bool _ from hR.2.1)) (fun ρ1 w1 hj hR => run_callf FnIs.out (evs_cons (show ρ1 44 = Value.agg (List.toArray _) from hR.1) evs_nil)) (fun w1 hj => dForm_calls a _ (hT.hp hj.hp) (by omega) (by omega) (by omega)) ?_
          first | refine dx_skip (i := 19) rfl (fun ρ1 w1 hj hR => (show ρ1 43 = Value.bool _ from hR.2.1)) (by decide) ?_ | refine dx_take (i := 19) rfl (fun ρ1 w1 hj hR => (show ρ1 43 = Value.bool _ from hR.2.1)) (fun ρ1 w1 hj hR => x_load (vs := [_, _, _]) TIs.out (show ρ1 3 = Value.pointer _ from hR.1) (hj.hp.rd_blk_at (i := 2) (n := 3) rfl rfl) rfl) ?_
          refine dx_take_call (i := 20) rfl (fun ρ1 w1 hj hR => (show ρ1 43 = Value.bool _ from hR.2.1)) (fun ρ1 w1 hj hR => run_callf FnIs.out (evs_cons (show ρ1 46 = Value.agg (List.toArray _) from hR.1) evs_nil)) (fun w1 hj => yForm_calls a _ (by omega) (by omega) (by omega)) ?_
          first | refine dx_skip (i := 21) rfl (fun ρ1 w1 hj hR => (show ρ1 43 = Value.bool _ from hR.2.2.1)) (by decide) ?_ | refine dx_take (i := 21) rfl (fun ρ1 w1 hj hR => (show ρ1 43 = Value.bool _ from hR.2.2.1)) (fun ρ1 w1 hj hR => x_eqN_t (show ρ1 45 = Value.agg (List.toArray _) from hR.1) (show ρ1 47 = Value.agg (List.toArray _) from hR.2.1) (by first | assumption | rfl)) ?_ | refine dx_take (i := 21) rfl (fun ρ1 w1 hj hR => (show ρ1 43 = Value.bool _ from hR.2.2.1)) (fun ρ1 w1 hj hR => x_eqN_f (show ρ1 45 = Value.agg (List.toArray _) from hR.1) (show ρ1 47 = Value.agg (List.toArray _) from hR.2.1) (by assumption)) ?_
          first | refine dx_val (i := 22) (fun ρ1 w1 hj hR => x_pick_t (show ρ1 43 = Value.bool _ from hR.1) (show ρ1 48 = Value.bool _ from hR.2.1)) ?_ | refine dx_val (i := 22) (fun ρ1 w1 hj hR => x_pick_f (show ρ1 43 = Value.bool _ from hR.1) rfl) ?_
          refine dx_val (i := 23) (fun ρ1 w1 hj hR => x_move (show ρ1 49 = Value.bool _ from hR.1)) ?_
          first | refine dx_skip (i := 24) rfl (fun ρ1 w1 hj hR => (show ρ1 50 = Value.bool _ from hR.2.1)) (by decide) ?_ | refine dx_take (i := 24) rfl (fun ρ1 w1 hj hR => (show ρ1 50 = Value.bool _ from hR.2.1)) (fun ρ1 w1 hj hR => x_load (vs := [_, _, _]) TIs.out (show ρ1 3 = Value.pointer _ from hR.1) (hj.hp.rd_blk_at (i := 2) (n := 3) rfl rfl) rfl) ?_
          refine dx_take_call (i := 25) rfl (fun ρ1 w1 hj hR => (show ρ1 50 = Value.bool _ from hR.2.1)) (fun ρ1 w1 hj hR => run_callf FnIs.out (evs_cons (show ρ1 51 = Value.agg (List.toArray _) from hR.1) evs_nil)) (fun w1 hj => dSign_calls a _) ?_
          first | refine dx_skip (i := 26) rfl (fun ρ1 w1 hj hR => (show ρ1 50 = Value.bool _ from hR.2.1)) (by decide) ?_ | refine dx_take (i := 26) rfl (fun ρ1 w1 hj hR => (show ρ1 50 = Value.bool _ from hR.2.1)) (fun ρ1 w1 hj hR => x_load (vs := [_, _, _]) TIs.out (show ρ1 3 = Value.pointer _ from hR.1) (hj.hp.rd_blk_at (i := 2) (n := 3) rfl rfl) rfl) ?_
          refine dx_take_call (i := 27) rfl (fun ρ1 w1 hj hR => (show ρ1 50 = Value.bool _ from hR.2.1)) (fun ρ1 w1 hj hR => run_callf FnIs.out (evs_cons (show ρ1 53 = Value.agg (List.toArray _) from hR.1) evs_nil)) (fun w1 hj => ySign_calls a _ (by omega)) ?_
          first | refine dx_skip (i := 28) rfl (fun ρ1 w1 hj hR => (show ρ1 50 = Value.bool _ from hR.2.2.1)) (by decide) ?_ | refine dx_take (i := 28) rfl (fun ρ1 w1 hj hR => (show ρ1 50 = Value.bool _ from hR.2.2.1)) (fun ρ1 w1 hj hR => x_eql_t (show ρ1 52 = Value.int _ _ from hR.1) (show ρ1 54 = Value.int _ _ from hR.2.1) (by omega)) ?_ | refine dx_take (i := 28) rfl (fun ρ1 w1 hj hR => (show ρ1 50 = Value.bool _ from hR.2.2.1)) (fun ρ1 w1 hj hR => x_eql_f (show ρ1 52 = Value.int _ _ from hR.1) (show ρ1 54 = Value.int _ _ from hR.2.1) (by omega)) ?_ | refine dx_take (i := 28) rfl (fun ρ1 w1 hj hR => (show ρ1 50 = Value.bool _ from hR.2.2.1)) (fun ρ1 w1 hj hR => x_eql_v (show ρ1 52 = Value.int _ _ from hR.1) (show ρ1 54 = Value.int _ _ from hR.2.1)) ?_
          first | refine dx_val (i := 29) (fun ρ1 w1 hj hR => x_pick_t (show ρ1 50 = Value.bool _ from hR.1) (show ρ1 55 = Value.bool _ from hR.2.1)) ?_ | refine dx_val (i := 29) (fun ρ1 w1 hj hR => x_pick_f (show ρ1 50 = Value.bool _ from hR.1) rfl) ?_
          refine dx_val (i := 30) (fun ρ1 w1 hj hR => x_move (show ρ1 56 = Value.bool _ from hR.1)) ?_
          first | refine dx_skip (i := 31) rfl (fun ρ1 w1 hj hR => (show ρ1 57 = Value.bool _ from hR.2.1)) (by decide) ?_ | refine dx_take (i := 31) rfl (fun ρ1 w1 hj hR => (show ρ1 57 = Value.bool _ from hR.2.1)) (fun ρ1 w1 hj hR => x_load (vs := [_, _, _]) TIs.out (show ρ1 3 = Value.pointer _ from hR.1) (hj.hp.rd_blk_at (i := 2) (n := 3) rfl rfl) rfl) ?_
          refine dx_take_call (i := 32) rfl (fun ρ1 w1 hj hR => (show ρ1 57 = Value.bool _ from hR.2.1)) (fun ρ1 w1 hj hR => run_callf FnIs.out (evs_cons (show ρ1 58 = Value.agg (List.toArray _) from hR.1) evs_nil)) (fun w1 hj => dNeg_calls a _ (hT.hp hj.hp) (by omega) (by omega) (by omega)) ?_
          first | refine dx_skip (i := 33) rfl (fun ρ1 w1 hj hR => (show ρ1 57 = Value.bool _ from hR.2.1)) (by decide) ?_ | refine dx_take (i := 33) rfl (fun ρ1 w1 hj hR => (show ρ1 57 = Value.bool _ from hR.2.1)) (fun ρ1 w1 hj hR => x_load (vs := [_, _, _]) TIs.out (show ρ1 3 = Value.pointer _ from hR.1) (hj.hp.rd_blk_at (i := 2) (n := 3) rfl rfl) rfl) ?_
          refine dx_take_call (i := 34) rfl (fun ρ1 w1 hj hR => (show ρ1 57 = Value.bool _ from hR.2.1)) (fun ρ1 w1 hj hR => run_callf FnIs.out (evs_cons (show ρ1 60 = Value.agg (List.toArray _) from hR.1) evs_nil)) (fun w1 hj => yNeg_calls a _ (by omega) (by omega) (by omega)) ?_
          first | refine dx_skip (i := 35) rfl (fun ρ1 w1 hj hR => (show ρ1 57 = Value.bool _ from hR.2.2.1)) (by decide) ?_ | refine dx_take (i := 35) rfl (fun ρ1 w1 hj hR => (show ρ1 57 = Value.bool _ from hR.2.2.1)) (fun ρ1 w1 hj hR => x_eqN_t (show ρ1 59 = Value.agg (List.toArray _) from hR.1) (show ρ1 61 = Value.agg (List.toArray _) from hR.2.1) (by first | assumption | rfl)) ?_ | refine dx_take (i := 35) rfl (fun ρ1 w1 hj hR => (show ρ1 57 = Value.bool _ from hR.2.2.1)) (fun ρ1 w1 hj hR => x_eqN_f (show ρ1 59 = Value.agg (List.toArray _) from hR.1) (show ρ1 61 = Value.agg (List.toArray _) from hR.2.1) (by assumption)) ?_
          first | refine dx_val (i := 36) (fun ρ1 w1 hj hR => x_pick_t (show ρ1 57 = Value.bool _ from hR.1) (show ρ1 62 = Value.bool _ from hR.2.1)) ?_ | refine dx_val (i := 36) (fun ρ1 w1 hj hR => x_pick_f (show ρ1 57 = Value.bool _ from hR.1) rfl) ?_
          refine dx_val (i := 37) (fun ρ1 w1 hj hR => x_move (show ρ1 63 = Value.bool _ from hR.1)) ?_
          first | refine dx_skip (i := 38) rfl (fun ρ1 w1 hj hR => (show ρ1 64 = Value.bool _ from hR.2.1)) (by decide) ?_ | refine dx_take (i := 38) rfl (fun ρ1 w1 hj hR => (show ρ1 64 = Value.bool _ from hR.2.1)) (fun ρ1 w1 hj hR => x_load (vs := [_, _, _]) TIs.out (show ρ1 3 = Value.pointer _ from hR.1) (hj.hp.rd_blk_at (i := 2) (n := 3) rfl rfl) rfl) ?_
          refine dx_take_call (i := 39) rfl (fun ρ1 w1 hj hR => (show ρ1 64 = Value.bool _ from hR.2.1)) (fun ρ1 w1 hj hR => run_callf FnIs.out (evs_cons (show ρ1 65 = Value.agg (List.toArray _) from hR.1) evs_nil)) (fun w1 hj => hab _ (hT.hp hj.hp)) ?_
          first | refine dx_skip (i := 40) rfl (fun ρ1 w1 hj hR => (show ρ1 64 = Value.bool _ from hR.2.1)) (by decide) ?_ | refine dx_take (i := 40) rfl (fun ρ1 w1 hj hR => (show ρ1 64 = Value.bool _ from hR.2.1)) (fun ρ1 w1 hj hR => x_load (vs := [_, _, _]) TIs.out (show ρ1 7 = Value.pointer _ from hR.1) (hj.hp.rd_blk_at (i := 0) (n := 3) rfl rfl) rfl) ?_
          first | refine dx_skip (i := 41) rfl (fun ρ1 w1 hj hR => (show ρ1 64 = Value.bool _ from hR.2.2.1)) (by decide) ?_ | refine dx_take (i := 41) rfl (fun ρ1 w1 hj hR => (show ρ1 64 = Value.bool _ from hR.2.2.1)) (fun ρ1 w1 hj hR => x_eqN_t (show ρ1 66 = Value.agg (List.toArray _) from hR.1) (show ρ1 67 = Value.agg (List.toArray _) from hR.2.1) (by first | assumption | rfl)) ?_ | refine dx_take (i := 41) rfl (fun ρ1 w1 hj hR => (show ρ1 64 = Value.bool _ from hR.2.2.1)) (fun ρ1 w1 hj hR => x_eqN_f (show ρ1 66 = Value.agg (List.toArray _) from hR.1) (show ρ1 67 = Value.agg (List.toArray _) from hR.2.1) (by assumption)) ?_
          first | refine dx_val (i := 42) (fun ρ1 w1 hj hR => x_pick_t (show ρ1 64 = Value.bool _ from hR.1) (show ρ1 68 = Value.bool _ from hR.2.1)) ?_ | refine dx_val (i := 42) (fun ρ1 w1 hj hR => x_pick_f (show ρ1 64 = Value.bool _ from hR.1) rfl) ?_
          refine dx_val (i := 43) (fun ρ1 w1 hj hR => x_move (show ρ1 69 = Value.bool _ from hR.1)) ?_
          first | refine dx_skip (i := 44) rfl (fun ρ1 w1 hj hR => (show ρ1 70 = Value.bool _ from hR.2.1)) (by decide) ?_ | refine dx_take (i := 44) rfl (fun ρ1 w1 hj hR => (show ρ1 70 = Value.bool _ from hR.2.1)) (fun ρ1 w1 hj hR => x_load (vs := [_, _, _]) TIs.out (show ρ1 3 = Value.pointer _ from hR.1) (hj.hp.rd_blk_at (i := 2) (n := 3) rfl rfl) rfl) ?_
          first | refine dx_skip (i := 45) rfl (fun ρ1 w1 hj hR => (show ρ1 70 = Value.bool _ from hR.2.1)) (by decide) ?_ | refine dx_take (i := 45) rfl (fun ρ1 w1 hj hR => (show ρ1 70 = Value.bool _ from hR.2.1)) (fun ρ1 w1 hj hR => x_move (show ρ1 2 = Value.int _ _ from hR.1)) ?_
          refine dx_take_call (i := 46) rfl (fun ρ1 w1 hj hR => (show ρ1 70 = Value.bool _ from hR.2.2.1)) (fun ρ1 w1 hj hR => run_callf FnIs.out (evs_cons (show ρ1 71 = Value.agg (List.toArray _) from hR.1) (evs_cons (show ρ1 72 = Value.int _ _ from hR.2.1) evs_nil))) (fun w1 hj => dShift_calls a by' _ (hT.hp hj.hp) (by omega) (by omega) (by omega) (by omega) (by omega)) ?_
          first | refine dx_skip (i := 47) rfl (fun ρ1 w1 hj hR => (show ρ1 70 = Value.bool _ from hR.2.1)) (by decide) ?_ | refine dx_take (i := 47) rfl (fun ρ1 w1 hj hR => (show ρ1 70 = Value.bool _ from hR.2.1)) (fun ρ1 w1 hj hR => x_load (vs := [_, _, _]) TIs.out (show ρ1 3 = Value.pointer _ from hR.1) (hj.hp.rd_blk_at (i := 2) (n := 3) rfl rfl) rfl) ?_
          first | refine dx_skip (i := 48) rfl (fun ρ1 w1 hj hR => (show ρ1 70 = Value.bool _ from hR.2.1)) (by decide) ?_ | refine dx_take (i := 48) rfl (fun ρ1 w1 hj hR => (show ρ1 70 = Value.bool _ from hR.2.1)) (fun ρ1 w1 hj hR => x_move (show ρ1 2 = Value.int _ _ from hR.1)) ?_
          refine dx_nil ?_
          intro f W hJ hV _
          have hb_6 := hJ.bl
          obtain ⟨v75, v74, v73, v72, v71, v70, v69, v68, v67, v66, v65, v64, v63, v62, v61, v60, v59, v58, v57, v56, v55, v54, v53, v52, v51, v50, v49, v48, v47, v46, v45, v44, v43, v42, v41, v40, v39, v38, v37, v36, v35, v34, v33, v32, v31, v30, v29, v28, v27, _⟩ := hV
          have e27 : f 0 = _ := v27
          have e28 : f 1 = _ := v28
          have e29 : f 2 = _ := v29
          have e30 : f 3 = _ := v30
          have e31 : f 4 = _ := v31
          have e32 : f 5 = _ := v32
          have e33 : f 6 = _ := v33
          have e34 : f 7 = _ := v34
          have e35 : f 8 = _ := v35
          have e36 : f 9 = _ := v36
          have e37 : f 10 = _ := v37
          have e38 : f 11 = _ := v38
          have e39 : f 12 = _ := v39
          have e40 : f 13 = _ := v40
          have e41 : f 14 = _ := v41
          have e42 : f 15 = _ := v42
          have e43 : f 16 = _ := v43
          have e44 : f 17 = _ := v44
          have e45 : f 18 = _ := v45
          have e46 : f 19 = _ := v46
          have e47 : f 20 = _ := v47
          have e48 : f 21 = _ := v48
          have e49 : f 22 = _ := v49
          have e50 : f 23 = _ := v50
          have e51 : f 24 = _ := v51
          have e52 : f 25 = _ := v52
          have e53 : f 26 = _ := v53
          have e54 : f 27 = _ := v54
          have e55 : f 28 = _ := v55
          have e56 : f 29 = _ := v56
          have e57 : f 30 = _ := v57
          have e58 : f 31 = _ := v58
          have e59 : f 32 = _ := v59
          have e60 : f 33 = _ := v60
          have e61 : f 34 = _ := v61
          have e62 : f 35 = _ := v62
          have e63 : f 36 = _ := v63
          have e64 : f 37 = _ := v64
          have e65 : f 38 = _ := v65
          have e66 : f 39 = _ := v66
          have e67 : f 40 = _ := v67
          have e68 : f 41 = _ := v68
          have e69 : f 42 = _ := v69
          have e70 : f 43 = _ := v70
          have e71 : f 44 = _ := v71
          have e72 : f 45 = _ := v72
          have e73 : f 46 = _ := v73
          have e74 : f 47 = _ := v74
          have e75 : f 48 = _ := v75
          replace hh := hJ.hp
          refine wl_cast (updL_K (eql_cons e75 (eql_cons e74 (eql_cons e73 (eql_cons e72 (eql_cons e71 (eql_cons e70 (eql_cons e69 (eql_cons e68 (eql_cons e67 (eql_cons e66 (eql_cons e65 (eql_cons e64 (eql_cons e63 (eql_cons e62 (eql_cons e61 (eql_cons e60 (eql_cons e59 (eql_cons e58 (eql_cons e57 (eql_cons e56 (eql_cons e55 (eql_cons e54 (eql_cons e53 (eql_cons e52 (eql_cons e51 (eql_cons e50 (eql_cons e49 (eql_cons e48 (eql_cons e47 (eql_cons e46 (eql_cons e45 (eql_cons e44 (eql_cons e43 (eql_cons e42 (eql_cons e41 (eql_cons e40 (eql_cons e39 (eql_cons e38 (eql_cons e37 (eql_cons e36 (eql_cons e35 (eql_cons e34 (eql_cons e33 (eql_cons e32 (eql_cons e31 (eql_cons e30 (eql_cons e29 (eql_cons e28 (eql_cons e27 eql_nil)))))))))))))))))))))))))))))))))))))))))))))))))) ?_
          dsimp only [updK]
          clear e27 e28 e29 e30 e31 e32 e33 e34 e35 e36 e37 e38 e39 e40 e41 e42 e43 e44 e45 e46 e47 e48 e49 e50 e51 e52 e53 e54 e55 e56 e57 e58 e59 e60 e61 e62 e63 e64 e65 e66 e67 e68 e69 e70 e71 e72 e73 e74 e75 hJ
          -- at guarded Op.call { callee := Callee.value (Operand.func 30), args := #[Operand.tmp 74, Op
          refine wl_guard_take rfl rfl ?_
          refine s_callf (yShift_calls a by' _ (by omega) (by omega) (by omega) (by omega) (by omega)) FnIs.out rfl (by decide) ?_
          rintro e_ w76 ⟨rfl, hb_⟩
          refine ⟨_, rfl, ?_⟩
          replace hh := hh.ext hb_
          first | (refine wl_guard_skip (by decide) rfl rfl (by decide) ?_) | (refine wl_guard_take rfl rfl ?_; (first | refine s_eqN_t rfl rfl (by first | assumption | rfl) (by decide) ?_ | refine s_eqN_f rfl rfl (by assumption) (by decide) ?_)) | (refine wl_guard_skipV (by decide) rfl rfl ?_)
          first | refine s_pick_t rfl (ev_bool rfl) (by decide) ?_ | refine s_pick_f rfl (ev_bool rfl) (by decide) ?_
          refine s_move (ev_bool rfl) (by decide) ?_
          -- at guarded Op.call { callee := Callee.value (Operand.func 9), args := #[], argTypes := #[] 
          refine wl_guard_take rfl rfl ?_
          refine s_callf (awake_calls _ (hT.hp hh)) FnIs.out rfl (by decide) ?_
          rintro e_ w80 ⟨rfl, hb_⟩
          refine ⟨_, rfl, ?_⟩
          replace hh := hh.ext hb_
          first | refine s_pick_t rfl (ev_bool rfl) (by decide) ?_ | refine s_pick_f rfl (ev_bool rfl) (by decide) ?_
          refine s_assign (ev_bool rfl) (by decide) ?_
          refine wl_end ?_
          refine wc_ret ?_
          -- at ('end', 'ret')
          refine ret1 (by first | exact .inr rfl | exact .inl rfl) rfl (v_bool rfl) ?_
          exact ⟨rfl, hh.below⟩
end Go.Proofs.YtgljgalcbbjfgaaGreatDoor
