/- The walk through the law DyadAdds. -/
import Derived.Test.YtgljgalcbbjfgaaGreatDoorDyMuls
import Derived.Test.YtgljgalcbbjfgaaGreatDoorDrawC
namespace Go.Proofs.YtgljgalcbbjfgaaGreatDoor
open Go.RowKit
-- umode
-- cast
theorem dyadAdds_calls (L : Option Addr) (n c : Nat) (l : List NR) (w : World) (hT : Tab w) (hS : Sl w L n 3 (recs NR.cells l)) :
    Calls Tryz.prog 6 #[.slice L n c] w fun r w' => r = .returned (.bool true) ∧ Below w.heap.size w w' := by
  have hh := Hp.start w
  have hln := hS.recLen NR.len (by omega)
  by_cases h5 : 15 < n
  · refine calls_vc (N := 101) (l := [.slice L n c]) Tryz.func6 rfl rfl (by simp) ?_
    refine wc_seq ?_
    refine wc_region ?_
    refine s_assign (ev_bool rfl) (by decide) ?_
    refine wl_end ?_
    refine wc_seq ?_
    refine wc_seq ?_
    refine wc_region ?_
    refine s_move (ev_sl rfl) (by decide) ?_
    refine s_len_sl UIs.out rfl (by decide) ?_
    first | refine s_gtr_t rfl rfl (by omega) (by decide) ?_ | refine s_gtr_f rfl rfl (by omega) (by decide) ?_ | refine s_gtr_v rfl rfl (by decide) ?_
    refine s_move (ev_bool rfl) (by decide) ?_
    first | (refine wl_guard_skip (by decide) rfl rfl (by decide) ?_) | (refine wl_guard_take rfl rfl ?_; (refine s_move (ev_sl rfl) (by decide) ?_)) | (refine wl_guard_skipV (by decide) rfl rfl ?_)
    first | refine wl_guard_skip (by decide) rfl rfl (by decide) ?_ | refine wl_guard_skipV (by decide) rfl rfl ?_
    first | refine s_pick_t rfl (ev_bool rfl) (by decide) ?_ | refine s_pick_f rfl (ev_bool rfl) (by decide) ?_
    refine wl_end ?_
    refine wc_cond_t rfl ?_
    refine wc_seq ?_
    refine wc_region ?_
    -- at some 12 := Op.call { callee := Callee.value (Operand.func 9), args := #[], argTypes := #[] }
    refine s_callf (awake_calls _ (hT.hp hh)) FnIs.out rfl (by decide) ?_
    rintro e_ w12 ⟨rfl, hb_⟩
    refine ⟨_, rfl, ?_⟩
    replace hh := hh.ext hb_
    refine s_assign (ev_bool rfl) (by decide) ?_
    refine wl_end ?_
    refine wc_ret ?_
    refine k_ret ?_
    -- at ('end', 'ret')
    refine ret1 (by first | exact .inr rfl | exact .inl rfl) rfl (v_bool rfl) ?_
    exact ⟨rfl, hh.below⟩
  · cases hlg : longB 40 300 l with
    | true =>
      refine calls_vc (N := 101) (l := [.slice L n c]) Tryz.func6 rfl rfl (by simp) ?_
      refine wc_seq ?_
      refine wc_region ?_
      refine s_assign (ev_bool rfl) (by decide) ?_
      refine wl_end ?_
      refine wc_seq ?_
      refine wc_seq ?_
      refine wc_region ?_
      refine s_move (ev_sl rfl) (by decide) ?_
      refine s_len_sl UIs.out rfl (by decide) ?_
      first | refine s_gtr_t rfl rfl (by omega) (by decide) ?_ | refine s_gtr_f rfl rfl (by omega) (by decide) ?_ | refine s_gtr_v rfl rfl (by decide) ?_
      refine s_move (ev_bool rfl) (by decide) ?_
      first | (refine wl_guard_skip (by decide) rfl rfl (by decide) ?_) | (refine wl_guard_take rfl rfl ?_; (refine s_move (ev_sl rfl) (by decide) ?_)) | (refine wl_guard_skipV (by decide) rfl rfl ?_)
      -- at guarded Op.call { callee := Callee.value (Operand.func 8), args := #[Operand.const (Valu
      refine wl_guard_take rfl rfl ?_
      refine s_callf (long_calls 40 300 L n c l _ hS (by omega) (by omega) (by omega)) FnIs.out rfl (by decide) ?_
      rintro e_ w10 ⟨rfl, hb_⟩
      refine ⟨_, rfl, ?_⟩
      replace hh := hh.ext hb_
      rw [hlg]
      first | refine s_pick_t rfl (ev_bool rfl) (by decide) ?_ | refine s_pick_f rfl (ev_bool rfl) (by decide) ?_
      refine wl_end ?_
      refine wc_cond_t rfl ?_
      refine wc_seq ?_
      refine wc_region ?_
      -- at some 12 := Op.call { callee := Callee.value (Operand.func 9), args := #[], argTypes := #[] }
      refine s_callf (awake_calls _ (hT.hp hh)) FnIs.out rfl (by decide) ?_
      rintro e_ w12 ⟨rfl, hb_⟩
      refine ⟨_, rfl, ?_⟩
      replace hh := hh.ext hb_
      refine s_assign (ev_bool rfl) (by decide) ?_
      refine wl_end ?_
      refine wc_ret ?_
      refine k_ret ?_
      -- at ('end', 'ret')
      refine ret1 (by first | exact .inr rfl | exact .inl rfl) rfl (v_bool rfl) ?_
      exact ⟨rfl, hh.below⟩
    | false =>
      have hsh := short hlg
      have hsz : ∀ a ∈ l, Sz 620 a.d := fun a ha => short_sz (most := 40) (far := 300) (hsh a ha)
      have hok : ∀ a ∈ l, a.ok := fun a ha => by have := hsh a ha; exact ⟨by omega, by omega, by omega⟩
      refine calls_vc (N := 101) (l := [.slice L n c]) Tryz.func6 rfl rfl (by simp) ?_
      refine wc_seq ?_
      refine wc_region ?_
      refine s_assign (ev_bool rfl) (by decide) ?_
      refine wl_end ?_
      refine wc_seq ?_
      refine wc_seq ?_
      refine wc_region ?_
      refine s_move (ev_sl rfl) (by decide) ?_
      refine s_len_sl UIs.out rfl (by decide) ?_
      first | refine s_gtr_t rfl rfl (by omega) (by decide) ?_ | refine s_gtr_f rfl rfl (by omega) (by decide) ?_ | refine s_gtr_v rfl rfl (by decide) ?_
      refine s_move (ev_bool rfl) (by decide) ?_
      first | (refine wl_guard_skip (by decide) rfl rfl (by decide) ?_) | (refine wl_guard_take rfl rfl ?_; (refine s_move (ev_sl rfl) (by decide) ?_)) | (refine wl_guard_skipV (by decide) rfl rfl ?_)
      -- at guarded Op.call { callee := Callee.value (Operand.func 8), args := #[Operand.const (Valu
      refine wl_guard_take rfl rfl ?_
      refine s_callf (long_calls 40 300 _ n c l _ hS (by omega) (by omega) (by omega)) FnIs.out rfl (by decide) ?_
      rintro e_ w10 ⟨rfl, hb_⟩
      refine ⟨_, rfl, ?_⟩
      replace hh := hh.ext hb_
      rw [hlg]
      first | refine s_pick_t rfl (ev_bool rfl) (by decide) ?_ | refine s_pick_f rfl (ev_bool rfl) (by decide) ?_
      refine wl_end ?_
      refine wc_cond_f rfl ?_
      refine wc_skip ?_
      refine k_then ?_
      refine wc_seq ?_
      refine wc_region ?_
      refine wl_buildSlice0 hh UIs.out TIs.out (by decide) ?_
      intro b13 w13 hh
      refine s_move (ev_sl rfl) (by decide) ?_
      -- at some 15 := Op.call { callee := Callee.builtin Builtin.append, args := #[Operand.tmp 13, Operand.tmp 1
      have hone : ((recs NR.cells l).all Value.oneCell') = true := recs_oneCells NR.one _
      refine wl_append hh (i := 0) rfl rfl rfl (hS.ext hh.below) UIs.out TIs.out rfl (by decide) ?one (by omega) (by omega) (by decide) ?kk
      case one => first | rfl | assumption | exact oneCells_i64s _ | exact oneCells_u8s _
      intro A15 c15 w15 hh
      simp only [List.set_cons_zero] at hh
      rw [Nat.zero_add] at hh ⊢
      rw [List.nil_append] at hh
      refine s_assign (ev_sl rfl) (by decide) ?_
      refine wl_end ?_
      refine wc_seq ?_
      refine wc_seq ?_
      refine wc_region ?_
      refine s_move (ev_sl rfl) (by decide) ?_
      -- at some 17 := Op.call { callee := Callee.value (Operand.func 31), args := #[Operand.tmp 16], argTypes :=
      refine s_callf (dAdd_calls _ n _ l _ (hT.hp hh) (hh.sl_row (i := 0) rfl) hok 620 hsz (by omega)) FnIs.out rfl (by decide) ?_
      rintro e_ w17 ⟨rfl, hb_⟩
      refine ⟨_, rfl, ?_⟩
      replace hh := hh.ext hb_
      refine s_move (ev_sl rfl) (by decide) ?_
      -- at some 19 := Op.call { callee := Callee.value (Operand.func 32), args := #[Operand.tmp 18], argTypes :=
      refine s_callf (yAdd_calls _ n _ l _ (hS.ext hh.below) hok 620 hsz (by omega)) FnIs.out rfl (by decide) ?_
      rintro e_ w19 ⟨rfl, hb_⟩
      refine ⟨_, rfl, ?_⟩
      replace hh := hh.ext hb_
      first | refine s_neN_f rfl rfl (by first | assumption | rfl) (by decide) ?_ | refine s_neN_t rfl rfl (by assumption) (by decide) ?_
      refine s_move (ev_bool rfl) (by decide) ?_
      first | (refine wl_guard_skip (by decide) rfl rfl (by decide) ?_) | (refine wl_guard_take rfl rfl ?_; (refine s_move (ev_sl rfl) (by decide) ?_)) | (refine wl_guard_skipV (by decide) rfl rfl ?_)
      -- at guarded Op.call { callee := Callee.value (Operand.func 33), args := #[Operand.tmp 22], a
      refine wl_guard_take rfl rfl ?_
      refine s_callf (dMin_calls _ n _ l _ (hT.hp hh) (hh.sl_row (i := 0) rfl) hok (by omega)) FnIs.out rfl (by decide) ?_
      rintro e_ w23 ⟨rfl, hb_⟩
      refine ⟨_, rfl, ?_⟩
      replace hh := hh.ext hb_
      first | (refine wl_guard_skip (by decide) rfl rfl (by decide) ?_) | (refine wl_guard_take rfl rfl ?_; (refine s_move (ev_sl rfl) (by decide) ?_)) | (refine wl_guard_skipV (by decide) rfl rfl ?_)
      -- at guarded Op.call { callee := Callee.value (Operand.func 34), args := #[Operand.tmp 24], a
      refine wl_guard_take rfl rfl ?_
      refine s_callf (yMin_calls _ n _ l _ (hS.ext hh.below) hok 620 hsz (by omega) (by omega)) FnIs.out rfl (by decide) ?_
      rintro e_ w25 ⟨rfl, hb_⟩
      refine ⟨_, rfl, ?_⟩
      replace hh := hh.ext hb_
      first | (refine wl_guard_skip (by decide) rfl rfl (by decide) ?_) | (refine wl_guard_take rfl rfl ?_; (first | refine s_neN_f rfl rfl (by first | assumption | rfl) (by decide) ?_ | refine s_neN_t rfl rfl (by assumption) (by decide) ?_)) | (refine wl_guard_skipV (by decide) rfl rfl ?_)
      first | refine s_pick_t rfl (ev_bool rfl) (by decide) ?_ | refine s_pick_f rfl (ev_bool rfl) (by decide) ?_
      refine s_move (ev_bool rfl) (by decide) ?_
      first | (refine wl_guard_skip (by decide) rfl rfl (by decide) ?_) | (refine wl_guard_take rfl rfl ?_; (refine s_move (ev_sl rfl) (by decide) ?_)) | (refine wl_guard_skipV (by decide) rfl rfl ?_)
      -- at guarded Op.call { callee := Callee.value (Operand.func 35), args := #[Operand.tmp 29], a
      refine wl_guard_take rfl rfl ?_
      refine s_callf (dMax_calls _ n _ l _ (hT.hp hh) (hh.sl_row (i := 0) rfl) hok (by omega)) FnIs.out rfl (by decide) ?_
      rintro e_ w30 ⟨rfl, hb_⟩
      refine ⟨_, rfl, ?_⟩
      replace hh := hh.ext hb_
      first | (refine wl_guard_skip (by decide) rfl rfl (by decide) ?_) | (refine wl_guard_take rfl rfl ?_; (refine s_move (ev_sl rfl) (by decide) ?_)) | (refine wl_guard_skipV (by decide) rfl rfl ?_)
      -- at guarded Op.call { callee := Callee.value (Operand.func 36), args := #[Operand.tmp 31], a
      refine wl_guard_take rfl rfl ?_
      refine s_callf (yMax_calls _ n _ l _ (hS.ext hh.below) hok 620 hsz (by omega) (by omega)) FnIs.out rfl (by decide) ?_
      rintro e_ w32 ⟨rfl, hb_⟩
      refine ⟨_, rfl, ?_⟩
      replace hh := hh.ext hb_
      first | (refine wl_guard_skip (by decide) rfl rfl (by decide) ?_) | (refine wl_guard_take rfl rfl ?_; (first | refine s_neN_f rfl rfl (by first | assumption | rfl) (by decide) ?_ | refine s_neN_t rfl rfl (by assumption) (by decide) ?_)) | (refine wl_guard_skipV (by decide) rfl rfl ?_)
      first | refine s_pick_t rfl (ev_bool rfl) (by decide) ?_ | refine s_pick_f rfl (ev_bool rfl) (by decide) ?_
      refine wl_end ?_
      refine wc_cond_f rfl ?_
      refine wc_skip ?_
      refine k_then ?_
      refine wc_seq ?_
      refine wc_seq ?_
      refine wc_region ?_
      refine s_assign (ev_int rfl) (by decide) ?_
      refine wl_end ?_
      refine wc_block ?_
      -- at a loop
      refine wc_loop1 [2, 4, 35, 36, 37, 38, 39, 40, 41, 42, 43, 44, 45, 46, 47, 48, 49, 50, 51, 52, 53, 54, 55, 56, 57, 58, 59, 60, 61, 62, 63, 64, 65, 66, 67, 68, 69, 70, 71, 72, 73, 74, 75, 76, 77, 78, 79, 80, 81, 82, 83, 84, 85, 86, 87, 88, 89, 90, 91, 92, 93, 94, 95, 96, 97, 98, 99] 4
        (fun j w' => ∃ (i : Nat), i ≤ n ∧ j = .int .i64 i ∧ Hp w [.row A15 n c15 28 3 (recs NR.cells l)] w')
        (fun j _ => n - (intOf j).toNat) ?_ ?_
      · exact ⟨0, Nat.zero_le _, rfl, hh⟩
      · clear hh
        rintro ρ' j w' ⟨i, hi, rfl, hh⟩
        -- 
        -- 
        by_cases hlt : i < n
        · obtain ⟨x, hx⟩ := get_of_lt (l := l) (k := i) (by omega)
          obtain ⟨ad, rfl, hr⟩ := hS.at_ (by omega)
          have hxm := List.mem_of_getElem? hx
          -- 
          obtain ⟨g, rfl⟩ := hh.row_some (i := 0) rfl (by omega)
          by_cases h0 : i = 0
          · have hi0 : ¬ 0 < (i : Int) := by omega
            refine wc_seq ?_
            refine wc_seq ?_
            refine wc_region ?_
            refine s_move (ev_int rfl) (by decide) ?_
            refine s_move (ev_sl rfl) (by decide) ?_
            refine s_len_sl UIs.out rfl (by decide) ?_
            first | refine s_lss_t rfl rfl (by omega) (by decide) ?_ | refine s_lss_f rfl rfl (by omega) (by decide) ?_ | refine s_lss_v rfl rfl (by decide) ?_
            refine wl_end ?_
            refine wc_cond_t rfl ?_
            refine wc_skip ?_
            refine k_then ?_
            refine wc_seq ?_
            refine wc_block ?_
            refine wc_seq ?_
            -- at the drawn region 9
            refine wc_drawn2 [] [] [0, 0, 3, 7, 0, 0, 48, 112, 255, 511, 1023, 2047, 4095, 8191, 8191, 24575, 65535, 131071, 8191, 8191, 794623, 1843199, 4194303, 8191, 8191, 16785407, 58728447, 125837311, 8191, 8191, 805314559, 1879056383, 4294967295, 8589934591, 17179869183, 34359738367, 34359738367, 103079215103, 274877906943, 549755813887, 34359738367, 34359738367, 3332894621695, 7730941132799, 17592186044415, 34359738367, 34359738367, 70403103916031, 246324964360191, 527799941070847, 34359738367, 34359738367, 3377734080266239, 7881333707636735, 18014398509481983, 36028797018963967, 72057594037927935, 144115188075855871, 288230376151711743] 54 [[(3, none)], [(4, none)], [(41, some 0), (42, some 1)], [(43, some 2)], [(0, none)], [(4, none)], [(45, some 4), (46, some 5)], [(47, some 6)], [(44, some 3), (48, some 7)], [(49, some 8)], [(4, none), (50, some 9)], [(51, some 10), (50, some 9)], [(52, some 11), (50, some 9)], [(0, none), (53, some 12)], [(4, none), (53, some 12)], [(55, some 14), (53, some 12)], [(54, some 13), (56, some 15), (53, some 12)], [(57, some 16), (53, some 12)], [(0, none), (53, some 12)], [(4, none), (53, some 12)], [(59, some 18), (60, some 19), (53, some 12)], [(61, some 20), (53, some 12)], [(58, some 17), (62, some 21), (53, some 12)], [(0, none), (53, some 12)], [(4, none), (53, some 12)], [(65, some 24), (53, some 12)], [(64, some 23), (66, some 25), (53, some 12)], [(67, some 26), (53, some 12)], [(0, none), (53, some 12)], [(4, none), (53, some 12)], [(69, some 28), (70, some 29), (53, some 12)], [(71, some 30), (53, some 12)], [(68, some 27), (72, some 31), (53, some 12)], [(63, some 22), (73, some 32), (53, some 12)], [(74, some 33), (53, some 12)], [(0, none), (75, some 34)], [(4, none), (75, some 34)], [(77, some 36), (75, some 34)], [(76, some 35), (78, some 37), (75, some 34)], [(79, some 38), (75, some 34)], [(0, none), (75, some 34)], [(4, none), (75, some 34)], [(81, some 40), (82, some 41), (75, some 34)], [(83, some 42), (75, some 34)], [(80, some 39), (84, some 43), (75, some 34)], [(0, none), (75, some 34)], [(4, none), (75, some 34)], [(87, some 46), (75, some 34)], [(86, some 45), (88, some 47), (75, some 34)], [(89, some 48), (75, some 34)], [(0, none), (75, some 34)], [(4, none), (75, some 34)], [(91, some 50), (92, some 51), (75, some 34)], [(93, some 52), (75, some 34)]] [(53, 94), (52, 93), (51, 92), (50, 91), (49, 90), (48, 89), (47, 88), (46, 87), (45, 86), (44, 85), (43, 84), (42, 83), (41, 82), (40, 81), (39, 80), (38, 79), (37, 78), (36, 77), (35, 76), (34, 75), (33, 74), (32, 73), (31, 72), (30, 71), (29, 70), (28, 69), (27, 68), (26, 67), (25, 66), (24, 65), (23, 64), (22, 63), (21, 62), (20, 61), (19, 60), (18, 59), (17, 58), (16, 57), (15, 56), (14, 55), (13, 54), (12, 53), (11, 52), (10, 51), (9, 50), (8, 49), (7, 48), (6, 47), (5, 46), (4, 45), (3, 44), (2, 43), (1, 42), (0, 41)] hh mixed (by kernel_rfl) alok_nil rfl (by repeat (first | exact np_ret | refine np_then ?_ | refine np_blk ?_)) ?_
            refine dx_val (i := 0) (fun ρ1 w1 hj hR => x_move (show ρ1 3 = Value.slice _ _ _ from hR.1)) ?_
            refine dx_val (i := 1) (fun ρ1 w1 hj hR => x_move (show ρ1 4 = Value.int _ _ from hR.1)) ?_
            refine dx_val (i := 2) (fun ρ1 w1 hj hR => x_indexRow (k := i) UIs.out TIs.size (show ρ1 41 = Value.slice _ _ _ from hR.1) (show ρ1 42 = Value.int _ _ from hR.2.1) (by omega) (by omega)) ?_
            refine dx_val (i := 3) (fun ρ1 w1 hj hR => x_load (vs := [_, _, _]) TIs.out (show ρ1 43 = Value.pointer _ from hR.1) (hj.hp.recRow (f := NR.cells) (x := x) (l := l) (i := 0) rfl NR.len (by decide) hx) rfl) ?_
            refine dx_val (i := 4) (fun ρ1 w1 hj hR => x_move (show ρ1 0 = Value.slice _ _ _ from hR.1)) ?_
            refine dx_val (i := 5) (fun ρ1 w1 hj hR => x_move (show ρ1 4 = Value.int _ _ from hR.1)) ?_
            refine dx_val (i := 6) (fun ρ1 w1 hj hR => x_indexSl (k := i) UIs.out TIs.size (show ρ1 45 = Value.slice _ _ _ from hR.1) (show ρ1 46 = Value.int _ _ from hR.2.1) (by omega) (by omega)) ?_
            refine dx_val (i := 7) (fun ρ1 w1 hj hR => x_load (vs := [_, _, _]) TIs.out (show ρ1 47 = Value.pointer _ from hR.1) ((hr.ext hj.hp.below).recAt NR.len hx) rfl) ?_
            first | refine dx_val (i := 8) (fun ρ1 w1 hj hR => x_neN_f (show ρ1 44 = Value.agg (List.toArray _) from hR.1) (show ρ1 48 = Value.agg (List.toArray _) from hR.2.1) (by first | assumption | rfl)) ?_ | refine dx_val (i := 8) (fun ρ1 w1 hj hR => x_neN_t (show ρ1 44 = Value.agg (List.toArray _) from hR.1) (show ρ1 48 = Value.agg (List.toArray _) from hR.2.1) (by assumption)) ?_
            refine dx_val (i := 9) (fun ρ1 w1 hj hR => x_move (show ρ1 49 = Value.bool _ from hR.1)) ?_
            first | refine dx_skip (i := 10) rfl (fun ρ1 w1 hj hR => (show ρ1 50 = Value.bool _ from hR.2.1)) (by decide) ?_ | refine dx_skipU (i := 10) rfl (fun ρ1 w1 hj hR => (show ρ1 50 = undef from hR.2.1)) ?_ | refine dx_take (i := 10) rfl (fun ρ1 w1 hj hR => (show ρ1 50 = Value.bool _ from hR.2.1)) (fun ρ1 w1 hj hR => x_move (show ρ1 4 = Value.int _ _ from hR.1)) ?_
            first | refine dx_skip (i := 11) rfl (fun ρ1 w1 hj hR => (show ρ1 50 = Value.bool _ from hR.2.1)) (by decide) ?_ | refine dx_skipU (i := 11) rfl (fun ρ1 w1 hj hR => (show ρ1 50 = undef from hR.2.1)) ?_ | refine dx_take (i := 11) rfl (fun ρ1 w1 hj hR => (show ρ1 50 = Value.bool _ from hR.2.1)) (fun ρ1 w1 hj hR => x_gtr_t (show ρ1 51 = Value.int _ _ from hR.1) rfl (by omega)) ?_ | refine dx_take (i := 11) rfl (fun ρ1 w1 hj hR => (show ρ1 50 = Value.bool _ from hR.2.1)) (fun ρ1 w1 hj hR => x_gtr_f (show ρ1 51 = Value.int _ _ from hR.1) rfl (by omega)) ?_ | refine dx_take (i := 11) rfl (fun ρ1 w1 hj hR => (show ρ1 50 = Value.bool _ from hR.2.1)) (fun ρ1 w1 hj hR => x_gtr_v (show ρ1 51 = Value.int _ _ from hR.1) rfl) ?_
            first | refine dx_skip (i := 12) rfl (fun ρ1 w1 hj hR => (show ρ1 50 = Value.bool _ from hR.2.1)) (by decide) ?_ | refine dx_skipU (i := 12) rfl (fun ρ1 w1 hj hR => (show ρ1 50 = undef from hR.2.1)) ?_ | refine dx_take (i := 12) rfl (fun ρ1 w1 hj hR => (show ρ1 50 = Value.bool _ from hR.2.1)) (fun ρ1 w1 hj hR => x_move (show ρ1 52 = Value.bool _ from hR.1)) ?_
            first | refine dx_skip (i := 13) rfl (fun ρ1 w1 hj hR => (show ρ1 53 = Value.bool _ from hR.2.1)) (by decide) ?_ | refine dx_skipU (i := 13) rfl (fun ρ1 w1 hj hR => (show ρ1 53 = undef from hR.2.1)) ?_ | refine dx_take (i := 13) rfl (fun ρ1 w1 hj hR => (show ρ1 53 = Value.bool _ from hR.2.1)) (fun ρ1 w1 hj hR => x_move (show ρ1 0 = Value.slice _ _ _ from hR.1)) ?_
            first | refine dx_skip (i := 14) rfl (fun ρ1 w1 hj hR => (show ρ1 53 = Value.bool _ from hR.2.1)) (by decide) ?_ | refine dx_skipU (i := 14) rfl (fun ρ1 w1 hj hR => (show ρ1 53 = undef from hR.2.1)) ?_ | refine dx_take (i := 14) rfl (fun ρ1 w1 hj hR => (show ρ1 53 = Value.bool _ from hR.2.1)) (fun ρ1 w1 hj hR => x_move (show ρ1 4 = Value.int _ _ from hR.1)) ?_
            first | refine dx_skip (i := 15) rfl (fun ρ1 w1 hj hR => (show ρ1 53 = Value.bool _ from hR.2.1)) (by decide) ?_ | refine dx_skipU (i := 15) rfl (fun ρ1 w1 hj hR => (show ρ1 53 = undef from hR.2.1)) ?_ | refine dx_take (i := 15) rfl (fun ρ1 w1 hj hR => (show ρ1 53 = Value.bool _ from hR.2.1)) (fun ρ1 w1 hj hR => x_subi (show ρ1 55 = Value.int _ _ from hR.1) rfl (by omega) (by omega)) ?_
            first | refine dx_skip (i := 16) rfl (fun ρ1 w1 hj hR => (show ρ1 53 = Value.bool _ from hR.2.2.1)) (by decide) ?_ | refine dx_skipU (i := 16) rfl (fun ρ1 w1 hj hR => (show ρ1 53 = undef from hR.2.2.1)) ?_ | refine dx_take (i := 16) rfl (fun ρ1 w1 hj hR => (show ρ1 53 = Value.bool _ from hR.2.2.1)) (fun ρ1 w1 hj hR => x_indexSl (k := i) UIs.out TIs.size (show ρ1 54 = Value.slice _ _ _ from hR.1) (show ρ1 56 = Value.int _ _ from hR.2.1) (by omega) (by omega)) ?_
            first | refine dx_skip (i := 17) rfl (fun ρ1 w1 hj hR => (show ρ1 53 = Value.bool _ from hR.2.1)) (by decide) ?_ | refine dx_skipU (i := 17) rfl (fun ρ1 w1 hj hR => (show ρ1 53 = undef from hR.2.1)) ?_ | refine dx_take (i := 17) rfl (fun ρ1 w1 hj hR => (show ρ1 53 = Value.bool _ from hR.2.1)) (fun ρ1 w1 hj hR => x_load (vs := [_, _, _]) TIs.out (show ρ1 57 = Value.pointer _ from hR.1) (trivial) rfl) ?_
            first | refine dx_skip (i := 18) rfl (fun ρ1 w1 hj hR => (show ρ1 53 = Value.bool _ from hR.2.1)) (by decide) ?_ | refine dx_skipU (i := 18) rfl (fun ρ1 w1 hj hR => (show ρ1 53 = undef from hR.2.1)) ?_ | refine dx_take (i := 18) rfl (fun ρ1 w1 hj hR => (show ρ1 53 = Value.bool _ from hR.2.1)) (fun ρ1 w1 hj hR => x_move (show ρ1 0 = Value.slice _ _ _ from hR.1)) ?_
            first | refine dx_skip (i := 19) rfl (fun ρ1 w1 hj hR => (show ρ1 53 = Value.bool _ from hR.2.1)) (by decide) ?_ | refine dx_skipU (i := 19) rfl (fun ρ1 w1 hj hR => (show ρ1 53 = undef from hR.2.1)) ?_ | refine dx_take (i := 19) rfl (fun ρ1 w1 hj hR => (show ρ1 53 = Value.bool _ from hR.2.1)) (fun ρ1 w1 hj hR => x_move (show ρ1 4 = Value.int _ _ from hR.1)) ?_
            first | refine dx_skip (i := 20) rfl (fun ρ1 w1 hj hR => (show ρ1 53 = Value.bool _ from hR.2.2.1)) (by decide) ?_ | refine dx_skipU (i := 20) rfl (fun ρ1 w1 hj hR => (show ρ1 53 = undef from hR.2.2.1)) ?_ | refine dx_take (i := 20) rfl (fun ρ1 w1 hj hR => (show ρ1 53 = Value.bool _ from hR.2.2.1)) (fun ρ1 w1 hj hR => x_indexSl (k := i) UIs.out TIs.size (show ρ1 59 = Value.slice _ _ _ from hR.1) (show ρ1 60 = Value.int _ _ from hR.2.1) (by omega) (by omega)) ?_
            first | refine dx_skip (i := 21) rfl (fun ρ1 w1 hj hR => (show ρ1 53 = Value.bool _ from hR.2.1)) (by decide) ?_ | refine dx_skipU (i := 21) rfl (fun ρ1 w1 hj hR => (show ρ1 53 = undef from hR.2.1)) ?_ | refine dx_take (i := 21) rfl (fun ρ1 w1 hj hR => (show ρ1 53 = Value.bool _ from hR.2.1)) (fun ρ1 w1 hj hR => x_load (vs := [_, _, _]) TIs.out (show ρ1 61 = Value.pointer _ from hR.1) (trivial) rfl) ?_
            first | refine dx_skip (i := 22) rfl (fun ρ1 w1 hj hR => (show ρ1 53 = Value.bool _ from hR.2.2.1)) (by decide) ?_ | refine dx_skipU (i := 22) rfl (fun ρ1 w1 hj hR => (show ρ1 53 = undef from hR.2.2.1)) ?_
            first | refine dx_skip (i := 23) rfl (fun ρ1 w1 hj hR => (show ρ1 53 = Value.bool _ from hR.2.1)) (by decide) ?_ | refine dx_skipU (i := 23) rfl (fun ρ1 w1 hj hR => (show ρ1 53 = undef from hR.2.1)) ?_ | refine dx_take (i := 23) rfl (fun ρ1 w1 hj hR => (show ρ1 53 = Value.bool _ from hR.2.1)) (fun ρ1 w1 hj hR => x_move (show ρ1 0 = Value.slice _ _ _ from hR.1)) ?_
            first | refine dx_skip (i := 24) rfl (fun ρ1 w1 hj hR => (show ρ1 53 = Value.bool _ from hR.2.1)) (by decide) ?_ | refine dx_skipU (i := 24) rfl (fun ρ1 w1 hj hR => (show ρ1 53 = undef from hR.2.1)) ?_ | refine dx_take (i := 24) rfl (fun ρ1 w1 hj hR => (show ρ1 53 = Value.bool _ from hR.2.1)) (fun ρ1 w1 hj hR => x_move (show ρ1 4 = Value.int _ _ from hR.1)) ?_
            first | refine dx_skip (i := 25) rfl (fun ρ1 w1 hj hR => (show ρ1 53 = Value.bool _ from hR.2.1)) (by decide) ?_ | refine dx_skipU (i := 25) rfl (fun ρ1 w1 hj hR => (show ρ1 53 = undef from hR.2.1)) ?_ | refine dx_take (i := 25) rfl (fun ρ1 w1 hj hR => (show ρ1 53 = Value.bool _ from hR.2.1)) (fun ρ1 w1 hj hR => x_subi (show ρ1 65 = Value.int _ _ from hR.1) rfl (by omega) (by omega)) ?_
            first | refine dx_skip (i := 26) rfl (fun ρ1 w1 hj hR => (show ρ1 53 = Value.bool _ from hR.2.2.1)) (by decide) ?_ | refine dx_skipU (i := 26) rfl (fun ρ1 w1 hj hR => (show ρ1 53 = undef from hR.2.2.1)) ?_ | refine dx_take (i := 26) rfl (fun ρ1 w1 hj hR => (show ρ1 53 = Value.bool _ from hR.2.2.1)) (fun ρ1 w1 hj hR => x_indexSl (k := i) UIs.out TIs.size (show ρ1 64 = Value.slice _ _ _ from hR.1) (show ρ1 66 = Value.int _ _ from hR.2.1) (by omega) (by omega)) ?_
            first | refine dx_skip (i := 27) rfl (fun ρ1 w1 hj hR => (show ρ1 53 = Value.bool _ from hR.2.1)) (by decide) ?_ | refine dx_skipU (i := 27) rfl (fun ρ1 w1 hj hR => (show ρ1 53 = undef from hR.2.1)) ?_ | refine dx_take (i := 27) rfl (fun ρ1 w1 hj hR => (show ρ1 53 = Value.bool _ from hR.2.1)) (fun ρ1 w1 hj hR => x_load (vs := [_, _, _]) TIs.out (show ρ1 67 = Value.pointer _ from hR.1) (trivial) rfl) ?_
            first | refine dx_skip (i := 28) rfl (fun ρ1 w1 hj hR => (show ρ1 53 = Value.bool _ from hR.2.1)) (by decide) ?_ | refine dx_skipU (i := 28) rfl (fun ρ1 w1 hj hR => (show ρ1 53 = undef from hR.2.1)) ?_ | refine dx_take (i := 28) rfl (fun ρ1 w1 hj hR => (show ρ1 53 = Value.bool _ from hR.2.1)) (fun ρ1 w1 hj hR => x_move (show ρ1 0 = Value.slice _ _ _ from hR.1)) ?_
            first | refine dx_skip (i := 29) rfl (fun ρ1 w1 hj hR => (show ρ1 53 = Value.bool _ from hR.2.1)) (by decide) ?_ | refine dx_skipU (i := 29) rfl (fun ρ1 w1 hj hR => (show ρ1 53 = undef from hR.2.1)) ?_ | refine dx_take (i := 29) rfl (fun ρ1 w1 hj hR => (show ρ1 53 = Value.bool _ from hR.2.1)) (fun ρ1 w1 hj hR => x_move (show ρ1 4 = Value.int _ _ from hR.1)) ?_
            first | refine dx_skip (i := 30) rfl (fun ρ1 w1 hj hR => (show ρ1 53 = Value.bool _ from hR.2.2.1)) (by decide) ?_ | refine dx_skipU (i := 30) rfl (fun ρ1 w1 hj hR => (show ρ1 53 = undef from hR.2.2.1)) ?_ | refine dx_take (i := 30) rfl (fun ρ1 w1 hj hR => (show ρ1 53 = Value.bool _ from hR.2.2.1)) (fun ρ1 w1 hj hR => x_indexSl (k := i) UIs.out TIs.size (show ρ1 69 = Value.slice _ _ _ from hR.1) (show ρ1 70 = Value.int _ _ from hR.2.1) (by omega) (by omega)) ?_
            first | refine dx_skip (i := 31) rfl (fun ρ1 w1 hj hR => (show ρ1 53 = Value.bool _ from hR.2.1)) (by decide) ?_ | refine dx_skipU (i := 31) rfl (fun ρ1 w1 hj hR => (show ρ1 53 = undef from hR.2.1)) ?_ | refine dx_take (i := 31) rfl (fun ρ1 w1 hj hR => (show ρ1 53 = Value.bool _ from hR.2.1)) (fun ρ1 w1 hj hR => x_load (vs := [_, _, _]) TIs.out (show ρ1 71 = Value.pointer _ from hR.1) (trivial) rfl) ?_
            first | refine dx_skip (i := 32) rfl (fun ρ1 w1 hj hR => (show ρ1 53 = Value.bool _ from hR.2.2.1)) (by decide) ?_ | refine dx_skipU (i := 32) rfl (fun ρ1 w1 hj hR => (show ρ1 53 = undef from hR.2.2.1)) ?_
            first | refine dx_skip (i := 33) rfl (fun ρ1 w1 hj hR => (show ρ1 53 = Value.bool _ from hR.2.2.1)) (by decide) ?_ | refine dx_skipU (i := 33) rfl (fun ρ1 w1 hj hR => (show ρ1 53 = undef from hR.2.2.1)) ?_ | refine dx_take (i := 33) rfl (fun ρ1 w1 hj hR => (show ρ1 53 = Value.bool _ from hR.2.2.1)) (fun ρ1 w1 hj hR => x_neN_f (show ρ1 63 = Value.agg (List.toArray _) from hR.1) (show ρ1 73 = Value.agg (List.toArray _) from hR.2.1) (by first | assumption | rfl)) ?_ | refine dx_take (i := 33) rfl (fun ρ1 w1 hj hR => (show ρ1 53 = Value.bool _ from hR.2.2.1)) (fun ρ1 w1 hj hR => x_neN_t (show ρ1 63 = Value.agg (List.toArray _) from hR.1) (show ρ1 73 = Value.agg (List.toArray _) from hR.2.1) (by assumption)) ?_
            first | refine dx_skip (i := 34) rfl (fun ρ1 w1 hj hR => (show ρ1 53 = Value.bool _ from hR.2.1)) (by decide) ?_ | refine dx_skipU (i := 34) rfl (fun ρ1 w1 hj hR => (show ρ1 53 = undef from hR.2.1)) ?_ | refine dx_take (i := 34) rfl (fun ρ1 w1 hj hR => (show ρ1 53 = Value.bool _ from hR.2.1)) (fun ρ1 w1 hj hR => x_move (show ρ1 74 = Value.bool _ from hR.1)) ?_
            first | refine dx_skip (i := 35) rfl (fun ρ1 w1 hj hR => (show ρ1 75 = Value.bool _ from hR.2.1)) (by decide) ?_ | refine dx_skipU (i := 35) rfl (fun ρ1 w1 hj hR => (show ρ1 75 = undef from hR.2.1)) ?_ | refine dx_take (i := 35) rfl (fun ρ1 w1 hj hR => (show ρ1 75 = Value.bool _ from hR.2.1)) (fun ρ1 w1 hj hR => x_move (show ρ1 0 = Value.slice _ _ _ from hR.1)) ?_
            first | refine dx_skip (i := 36) rfl (fun ρ1 w1 hj hR => (show ρ1 75 = Value.bool _ from hR.2.1)) (by decide) ?_ | refine dx_skipU (i := 36) rfl (fun ρ1 w1 hj hR => (show ρ1 75 = undef from hR.2.1)) ?_ | refine dx_take (i := 36) rfl (fun ρ1 w1 hj hR => (show ρ1 75 = Value.bool _ from hR.2.1)) (fun ρ1 w1 hj hR => x_move (show ρ1 4 = Value.int _ _ from hR.1)) ?_
            first | refine dx_skip (i := 37) rfl (fun ρ1 w1 hj hR => (show ρ1 75 = Value.bool _ from hR.2.1)) (by decide) ?_ | refine dx_skipU (i := 37) rfl (fun ρ1 w1 hj hR => (show ρ1 75 = undef from hR.2.1)) ?_ | refine dx_take (i := 37) rfl (fun ρ1 w1 hj hR => (show ρ1 75 = Value.bool _ from hR.2.1)) (fun ρ1 w1 hj hR => x_subi (show ρ1 77 = Value.int _ _ from hR.1) rfl (by omega) (by omega)) ?_
            first | refine dx_skip (i := 38) rfl (fun ρ1 w1 hj hR => (show ρ1 75 = Value.bool _ from hR.2.2.1)) (by decide) ?_ | refine dx_skipU (i := 38) rfl (fun ρ1 w1 hj hR => (show ρ1 75 = undef from hR.2.2.1)) ?_ | refine dx_take (i := 38) rfl (fun ρ1 w1 hj hR => (show ρ1 75 = Value.bool _ from hR.2.2.1)) (fun ρ1 w1 hj hR => x_indexSl (k := i) UIs.out TIs.size (show ρ1 76 = Value.slice _ _ _ from hR.1) (show ρ1 78 = Value.int _ _ from hR.2.1) (by omega) (by omega)) ?_
            first | refine dx_skip (i := 39) rfl (fun ρ1 w1 hj hR => (show ρ1 75 = Value.bool _ from hR.2.1)) (by decide) ?_ | refine dx_skipU (i := 39) rfl (fun ρ1 w1 hj hR => (show ρ1 75 = undef from hR.2.1)) ?_ | refine dx_take (i := 39) rfl (fun ρ1 w1 hj hR => (show ρ1 75 = Value.bool _ from hR.2.1)) (fun ρ1 w1 hj hR => x_load (vs := [_, _, _]) TIs.out (show ρ1 79 = Value.pointer _ from hR.1) (trivial) rfl) ?_
            first | refine dx_skip (i := 40) rfl (fun ρ1 w1 hj hR => (show ρ1 75 = Value.bool _ from hR.2.1)) (by decide) ?_ | refine dx_skipU (i := 40) rfl (fun ρ1 w1 hj hR => (show ρ1 75 = undef from hR.2.1)) ?_ | refine dx_take (i := 40) rfl (fun ρ1 w1 hj hR => (show ρ1 75 = Value.bool _ from hR.2.1)) (fun ρ1 w1 hj hR => x_move (show ρ1 0 = Value.slice _ _ _ from hR.1)) ?_
            first | refine dx_skip (i := 41) rfl (fun ρ1 w1 hj hR => (show ρ1 75 = Value.bool _ from hR.2.1)) (by decide) ?_ | refine dx_skipU (i := 41) rfl (fun ρ1 w1 hj hR => (show ρ1 75 = undef from hR.2.1)) ?_ | refine dx_take (i := 41) rfl (fun ρ1 w1 hj hR => (show ρ1 75 = Value.bool _ from hR.2.1)) (fun ρ1 w1 hj hR => x_move (show ρ1 4 = Value.int _ _ from hR.1)) ?_
            first | refine dx_skip (i := 42) rfl (fun ρ1 w1 hj hR => (show ρ1 75 = Value.bool _ from hR.2.2.1)) (by decide) ?_ | refine dx_skipU (i := 42) rfl (fun ρ1 w1 hj hR => (show ρ1 75 = undef from hR.2.2.1)) ?_ | refine dx_take (i := 42) rfl (fun ρ1 w1 hj hR => (show ρ1 75 = Value.bool _ from hR.2.2.1)) (fun ρ1 w1 hj hR => x_indexSl (k := i) UIs.out TIs.size (show ρ1 81 = Value.slice _ _ _ from hR.1) (show ρ1 82 = Value.int _ _ from hR.2.1) (by omega) (by omega)) ?_
            first | refine dx_skip (i := 43) rfl (fun ρ1 w1 hj hR => (show ρ1 75 = Value.bool _ from hR.2.1)) (by decide) ?_ | refine dx_skipU (i := 43) rfl (fun ρ1 w1 hj hR => (show ρ1 75 = undef from hR.2.1)) ?_ | refine dx_take (i := 43) rfl (fun ρ1 w1 hj hR => (show ρ1 75 = Value.bool _ from hR.2.1)) (fun ρ1 w1 hj hR => x_load (vs := [_, _, _]) TIs.out (show ρ1 83 = Value.pointer _ from hR.1) (trivial) rfl) ?_
            first | refine dx_skip (i := 44) rfl (fun ρ1 w1 hj hR => (show ρ1 75 = Value.bool _ from hR.2.2.1)) (by decide) ?_ | refine dx_skipU (i := 44) rfl (fun ρ1 w1 hj hR => (show ρ1 75 = undef from hR.2.2.1)) ?_
            first | refine dx_skip (i := 45) rfl (fun ρ1 w1 hj hR => (show ρ1 75 = Value.bool _ from hR.2.1)) (by decide) ?_ | refine dx_skipU (i := 45) rfl (fun ρ1 w1 hj hR => (show ρ1 75 = undef from hR.2.1)) ?_ | refine dx_take (i := 45) rfl (fun ρ1 w1 hj hR => (show ρ1 75 = Value.bool _ from hR.2.1)) (fun ρ1 w1 hj hR => x_move (show ρ1 0 = Value.slice _ _ _ from hR.1)) ?_
            first | refine dx_skip (i := 46) rfl (fun ρ1 w1 hj hR => (show ρ1 75 = Value.bool _ from hR.2.1)) (by decide) ?_ | refine dx_skipU (i := 46) rfl (fun ρ1 w1 hj hR => (show ρ1 75 = undef from hR.2.1)) ?_ | refine dx_take (i := 46) rfl (fun ρ1 w1 hj hR => (show ρ1 75 = Value.bool _ from hR.2.1)) (fun ρ1 w1 hj hR => x_move (show ρ1 4 = Value.int _ _ from hR.1)) ?_
            first | refine dx_skip (i := 47) rfl (fun ρ1 w1 hj hR => (show ρ1 75 = Value.bool _ from hR.2.1)) (by decide) ?_ | refine dx_skipU (i := 47) rfl (fun ρ1 w1 hj hR => (show ρ1 75 = undef from hR.2.1)) ?_ | refine dx_take (i := 47) rfl (fun ρ1 w1 hj hR => (show ρ1 75 = Value.bool _ from hR.2.1)) (fun ρ1 w1 hj hR => x_subi (show ρ1 87 = Value.int _ _ from hR.1) rfl (by omega) (by omega)) ?_
            first | refine dx_skip (i := 48) rfl (fun ρ1 w1 hj hR => (show ρ1 75 = Value.bool _ from hR.2.2.1)) (by decide) ?_ | refine dx_skipU (i := 48) rfl (fun ρ1 w1 hj hR => (show ρ1 75 = undef from hR.2.2.1)) ?_ | refine dx_take (i := 48) rfl (fun ρ1 w1 hj hR => (show ρ1 75 = Value.bool _ from hR.2.2.1)) (fun ρ1 w1 hj hR => x_indexSl (k := i) UIs.out TIs.size (show ρ1 86 = Value.slice _ _ _ from hR.1) (show ρ1 88 = Value.int _ _ from hR.2.1) (by omega) (by omega)) ?_
            first | refine dx_skip (i := 49) rfl (fun ρ1 w1 hj hR => (show ρ1 75 = Value.bool _ from hR.2.1)) (by decide) ?_ | refine dx_skipU (i := 49) rfl (fun ρ1 w1 hj hR => (show ρ1 75 = undef from hR.2.1)) ?_ | refine dx_take (i := 49) rfl (fun ρ1 w1 hj hR => (show ρ1 75 = Value.bool _ from hR.2.1)) (fun ρ1 w1 hj hR => x_load (vs := [_, _, _]) TIs.out (show ρ1 89 = Value.pointer _ from hR.1) (trivial) rfl) ?_
            first | refine dx_skip (i := 50) rfl (fun ρ1 w1 hj hR => (show ρ1 75 = Value.bool _ from hR.2.1)) (by decide) ?_ | refine dx_skipU (i := 50) rfl (fun ρ1 w1 hj hR => (show ρ1 75 = undef from hR.2.1)) ?_ | refine dx_take (i := 50) rfl (fun ρ1 w1 hj hR => (show ρ1 75 = Value.bool _ from hR.2.1)) (fun ρ1 w1 hj hR => x_move (show ρ1 0 = Value.slice _ _ _ from hR.1)) ?_
            first | refine dx_skip (i := 51) rfl (fun ρ1 w1 hj hR => (show ρ1 75 = Value.bool _ from hR.2.1)) (by decide) ?_ | refine dx_skipU (i := 51) rfl (fun ρ1 w1 hj hR => (show ρ1 75 = undef from hR.2.1)) ?_ | refine dx_take (i := 51) rfl (fun ρ1 w1 hj hR => (show ρ1 75 = Value.bool _ from hR.2.1)) (fun ρ1 w1 hj hR => x_move (show ρ1 4 = Value.int _ _ from hR.1)) ?_
            first | refine dx_skip (i := 52) rfl (fun ρ1 w1 hj hR => (show ρ1 75 = Value.bool _ from hR.2.2.1)) (by decide) ?_ | refine dx_skipU (i := 52) rfl (fun ρ1 w1 hj hR => (show ρ1 75 = undef from hR.2.2.1)) ?_ | refine dx_take (i := 52) rfl (fun ρ1 w1 hj hR => (show ρ1 75 = Value.bool _ from hR.2.2.1)) (fun ρ1 w1 hj hR => x_indexSl (k := i) UIs.out TIs.size (show ρ1 91 = Value.slice _ _ _ from hR.1) (show ρ1 92 = Value.int _ _ from hR.2.1) (by omega) (by omega)) ?_
            first | refine dx_skip (i := 53) rfl (fun ρ1 w1 hj hR => (show ρ1 75 = Value.bool _ from hR.2.1)) (by decide) ?_ | refine dx_skipU (i := 53) rfl (fun ρ1 w1 hj hR => (show ρ1 75 = undef from hR.2.1)) ?_ | refine dx_take (i := 53) rfl (fun ρ1 w1 hj hR => (show ρ1 75 = Value.bool _ from hR.2.1)) (fun ρ1 w1 hj hR => x_load (vs := [_, _, _]) TIs.out (show ρ1 93 = Value.pointer _ from hR.1) (trivial) rfl) ?_
            refine dx_nil ?_
            intro f W hJ hV _
            have hb_9 := hJ.bl
            obtain ⟨v94, v93, v92, v91, v90, v89, v88, v87, v86, v85, v84, v83, v82, v81, v80, v79, v78, v77, v76, v75, v74, v73, v72, v71, v70, v69, v68, v67, v66, v65, v64, v63, v62, v61, v60, v59, v58, v57, v56, v55, v54, v53, v52, v51, v50, v49, v48, v47, v46, v45, v44, v43, v42, v41, _⟩ := hV
            have e41 : f 0 = _ := v41
            have e42 : f 1 = _ := v42
            have e43 : f 2 = _ := v43
            have e44 : f 3 = _ := v44
            have e45 : f 4 = _ := v45
            have e46 : f 5 = _ := v46
            have e47 : f 6 = _ := v47
            have e48 : f 7 = _ := v48
            have e49 : f 8 = _ := v49
            have e50 : f 9 = _ := v50
            have e51 : f 10 = _ := v51
            have e52 : f 11 = _ := v52
            have e53 : f 12 = _ := v53
            have e54 : f 13 = _ := v54
            have e55 : f 14 = _ := v55
            have e56 : f 15 = _ := v56
            have e57 : f 16 = _ := v57
            have e58 : f 17 = _ := v58
            have e59 : f 18 = _ := v59
            have e60 : f 19 = _ := v60
            have e61 : f 20 = _ := v61
            have e62 : f 21 = _ := v62
            have e63 : f 22 = _ := v63
            have e64 : f 23 = _ := v64
            have e65 : f 24 = _ := v65
            have e66 : f 25 = _ := v66
            have e67 : f 26 = _ := v67
            have e68 : f 27 = _ := v68
            have e69 : f 28 = _ := v69
            have e70 : f 29 = _ := v70
            have e71 : f 30 = _ := v71
            have e72 : f 31 = _ := v72
            have e73 : f 32 = _ := v73
            have e74 : f 33 = _ := v74
            have e75 : f 34 = _ := v75
            have e76 : f 35 = _ := v76
            have e77 : f 36 = _ := v77
            have e78 : f 37 = _ := v78
            have e79 : f 38 = _ := v79
            have e80 : f 39 = _ := v80
            have e81 : f 40 = _ := v81
            have e82 : f 41 = _ := v82
            have e83 : f 42 = _ := v83
            have e84 : f 43 = _ := v84
            have e85 : f 44 = _ := v85
            have e86 : f 45 = _ := v86
            have e87 : f 46 = _ := v87
            have e88 : f 47 = _ := v88
            have e89 : f 48 = _ := v89
            have e90 : f 49 = _ := v90
            have e91 : f 50 = _ := v91
            have e92 : f 51 = _ := v92
            have e93 : f 52 = _ := v93
            have e94 : f 53 = _ := v94
            replace hh := hJ.hp
            refine wl_cast (updL_K (eql_cons e94 (eql_cons e93 (eql_cons e92 (eql_cons e91 (eql_cons e90 (eql_cons e89 (eql_cons e88 (eql_cons e87 (eql_cons e86 (eql_cons e85 (eql_cons e84 (eql_cons e83 (eql_cons e82 (eql_cons e81 (eql_cons e80 (eql_cons e79 (eql_cons e78 (eql_cons e77 (eql_cons e76 (eql_cons e75 (eql_cons e74 (eql_cons e73 (eql_cons e72 (eql_cons e71 (eql_cons e70 (eql_cons e69 (eql_cons e68 (eql_cons e67 (eql_cons e66 (eql_cons e65 (eql_cons e64 (eql_cons e63 (eql_cons e62 (eql_cons e61 (eql_cons e60 (eql_cons e59 (eql_cons e58 (eql_cons e57 (eql_cons e56 (eql_cons e55 (eql_cons e54 (eql_cons e53 (eql_cons e52 (eql_cons e51 (eql_cons e50 (eql_cons e49 (eql_cons e48 (eql_cons e47 (eql_cons e46 (eql_cons e45 (eql_cons e44 (eql_cons e43 (eql_cons e42 (eql_cons e41 eql_nil))))))))))))))))))))))))))))))))))))))))))))))))))))))) ?_
            dsimp only [updK]
            clear e41 e42 e43 e44 e45 e46 e47 e48 e49 e50 e51 e52 e53 e54 e55 e56 e57 e58 e59 e60 e61 e62 e63 e64 e65 e66 e67 e68 e69 e70 e71 e72 e73 e74 e75 e76 e77 e78 e79 e80 e81 e82 e83 e84 e85 e86 e87 e88 e89 e90 e91 e92 e93 e94 hJ
            first | refine wl_guard_skip (by decide) rfl rfl (by decide) ?_ | refine wl_guard_skipV (by decide) rfl rfl ?_
            first | (refine wl_guard_skip (by decide) rfl rfl (by decide) ?_) | (refine wl_guard_take rfl rfl ?_; (first | refine s_neq_t rfl rfl (by omega) (by decide) ?_ | refine s_neq_f rfl rfl (by omega) (by decide) ?_ | refine s_neq_v rfl rfl (by decide) ?_)) | (refine wl_guard_skipV (by decide) rfl rfl ?_)
            first | (refine wl_guard_skip (by decide) rfl rfl (by decide) ?_) | (refine wl_guard_take rfl rfl ?_; (first | refine s_pick_t rfl (ev_bool rfl) (by decide) ?_ | refine s_pick_f rfl (ev_bool rfl) (by decide) ?_)) | (refine wl_guard_skipV (by decide) rfl rfl ?_)
            first | (refine wl_guard_skip (by decide) rfl rfl (by decide) ?_) | (refine wl_guard_take rfl rfl ?_; (first | refine s_pick_t rfl (ev_bool rfl) (by decide) ?_ | refine s_pick_f rfl (ev_bool rfl) (by decide) ?_)) | (refine wl_guard_skipV (by decide) rfl rfl ?_)
            first | refine s_pick_t rfl (ev_bool rfl) (by decide) ?_ | refine s_pick_f rfl (ev_bool rfl) (by decide) ?_
            refine wl_end ?_
            refine wc_cond_f rfl ?_
            refine wc_skip ?_
            refine b_norm ?_
            refine k_then ?_
            refine wc_region ?_
            refine s_move (ev_int rfl) (by decide) ?_
            refine s_addi rfl rfl (by omega) (by omega) (by decide) ?_
            refine s_assign (ev_int rfl) (by decide) ?_
            refine wl_nil ?_
            refine k_then ?_
            -- at ('round',)
            refine ⟨⟨i + 1, by omega, rfl, hh⟩, by show n - (i + 1) < n - i; omega, ?_⟩
            (repeat (first | exact agree_mask _ _ _ | refine agree_upd rfl ?_ | refine agree_mask2 rfl ?_))
          · obtain ⟨k, rfl⟩ : ∃ k, i = k + 1 := ⟨i - 1, by omega⟩
            obtain ⟨y, hy⟩ := get_of_lt (l := l) (k := k) (by omega)
            have hym := List.mem_of_getElem? hy
            have hzx := hsz x hxm
            have hzy := hsz y hym
            have hds := fun w1 hT1 => dSub_calls y x w1 hT1 (hok y hym) (hok x hxm) 620 hzy hzx (by omega)
            have hys := fun w1 => ySub_calls y x w1 (hok y hym) (hok x hxm) (hzx.ok (by omega))
            have hdc := fun w1 hT1 => dCmp_calls y x w1 hT1 (hok y hym) (hok x hxm)
            have hyc := fun w1 => yCmp_calls y x w1 (hok y hym) (hok x hxm) (hzx.ok (by omega)) (by have := ((hzy.sub hzx).ok (by omega)).1; omega)
            refine wc_seq ?_
            refine wc_seq ?_
            refine wc_region ?_
            refine s_move (ev_int rfl) (by decide) ?_
            refine s_move (ev_sl rfl) (by decide) ?_
            refine s_len_sl UIs.out rfl (by decide) ?_
            first | refine s_lss_t rfl rfl (by omega) (by decide) ?_ | refine s_lss_f rfl rfl (by omega) (by decide) ?_ | refine s_lss_v rfl rfl (by decide) ?_
            refine wl_end ?_
            refine wc_cond_t rfl ?_
            refine wc_skip ?_
            refine k_then ?_
            refine wc_seq ?_
            refine wc_block ?_
            refine wc_seq ?_
            -- at the drawn region 9
            refine wc_drawn2 [] [] [0, 0, 3, 7, 0, 0, 48, 112, 255, 511, 1023, 2047, 4095, 8191, 8191, 24575, 65535, 131071, 8191, 8191, 794623, 1843199, 4194303, 8191, 8191, 16785407, 58728447, 125837311, 8191, 8191, 805314559, 1879056383, 4294967295, 8589934591, 17179869183, 34359738367, 34359738367, 103079215103, 274877906943, 549755813887, 34359738367, 34359738367, 3332894621695, 7730941132799, 17592186044415, 34359738367, 34359738367, 70403103916031, 246324964360191, 527799941070847, 34359738367, 34359738367, 3377734080266239, 7881333707636735, 18014398509481983, 36028797018963967, 72057594037927935, 144115188075855871, 288230376151711743] 54 [[(3, none)], [(4, none)], [(41, some 0), (42, some 1)], [(43, some 2)], [(0, none)], [(4, none)], [(45, some 4), (46, some 5)], [(47, some 6)], [(44, some 3), (48, some 7)], [(49, some 8)], [(4, none), (50, some 9)], [(51, some 10), (50, some 9)], [(52, some 11), (50, some 9)], [(0, none), (53, some 12)], [(4, none), (53, some 12)], [(55, some 14), (53, some 12)], [(54, some 13), (56, some 15), (53, some 12)], [(57, some 16), (53, some 12)], [(0, none), (53, some 12)], [(4, none), (53, some 12)], [(59, some 18), (60, some 19), (53, some 12)], [(61, some 20), (53, some 12)], [(58, some 17), (62, some 21), (53, some 12)], [(0, none), (53, some 12)], [(4, none), (53, some 12)], [(65, some 24), (53, some 12)], [(64, some 23), (66, some 25), (53, some 12)], [(67, some 26), (53, some 12)], [(0, none), (53, some 12)], [(4, none), (53, some 12)], [(69, some 28), (70, some 29), (53, some 12)], [(71, some 30), (53, some 12)], [(68, some 27), (72, some 31), (53, some 12)], [(63, some 22), (73, some 32), (53, some 12)], [(74, some 33), (53, some 12)], [(0, none), (75, some 34)], [(4, none), (75, some 34)], [(77, some 36), (75, some 34)], [(76, some 35), (78, some 37), (75, some 34)], [(79, some 38), (75, some 34)], [(0, none), (75, some 34)], [(4, none), (75, some 34)], [(81, some 40), (82, some 41), (75, some 34)], [(83, some 42), (75, some 34)], [(80, some 39), (84, some 43), (75, some 34)], [(0, none), (75, some 34)], [(4, none), (75, some 34)], [(87, some 46), (75, some 34)], [(86, some 45), (88, some 47), (75, some 34)], [(89, some 48), (75, some 34)], [(0, none), (75, some 34)], [(4, none), (75, some 34)], [(91, some 50), (92, some 51), (75, some 34)], [(93, some 52), (75, some 34)]] [(53, 94), (52, 93), (51, 92), (50, 91), (49, 90), (48, 89), (47, 88), (46, 87), (45, 86), (44, 85), (43, 84), (42, 83), (41, 82), (40, 81), (39, 80), (38, 79), (37, 78), (36, 77), (35, 76), (34, 75), (33, 74), (32, 73), (31, 72), (30, 71), (29, 70), (28, 69), (27, 68), (26, 67), (25, 66), (24, 65), (23, 64), (22, 63), (21, 62), (20, 61), (19, 60), (18, 59), (17, 58), (16, 57), (15, 56), (14, 55), (13, 54), (12, 53), (11, 52), (10, 51), (9, 50), (8, 49), (7, 48), (6, 47), (5, 46), (4, 45), (3, 44), (2, 43), (1, 42), (0, 41)] hh mixed (by kernel_rfl) alok_nil rfl (by repeat (first | exact np_ret | refine np_then ?_ | refine np_blk ?_)) ?_
            refine dx_val (i := 0) (fun ρ1 w1 hj hR => x_move (show ρ1 3 = Value.slice _ _ _ from hR.1)) ?_
            refine dx_val (i := 1) (fun ρ1 w1 hj hR => x_move (show ρ1 4 = Value.int _ _ from hR.1)) ?_
            refine dx_val (i := 2) (fun ρ1 w1 hj hR => x_indexRow (k := (k + 1)) UIs.out TIs.size (show ρ1 41 = Value.slice _ _ _ from hR.1) (show ρ1 42 = Value.int _ _ from hR.2.1) (by omega) (by omega)) ?_
            refine dx_val (i := 3) (fun ρ1 w1 hj hR => x_load (vs := [_, _, _]) TIs.out (show ρ1 43 = Value.pointer _ from hR.1) (hj.hp.recRow (f := NR.cells) (x := x) (l := l) (i := 0) rfl NR.len (by decide) hx) rfl) ?_
            refine dx_val (i := 4) (fun ρ1 w1 hj hR => x_move (show ρ1 0 = Value.slice _ _ _ from hR.1)) ?_
            refine dx_val (i := 5) (fun ρ1 w1 hj hR => x_move (show ρ1 4 = Value.int _ _ from hR.1)) ?_
            refine dx_val (i := 6) (fun ρ1 w1 hj hR => x_indexSl (k := (k + 1)) UIs.out TIs.size (show ρ1 45 = Value.slice _ _ _ from hR.1) (show ρ1 46 = Value.int _ _ from hR.2.1) (by omega) (by omega)) ?_
            refine dx_val (i := 7) (fun ρ1 w1 hj hR => x_load (vs := [_, _, _]) TIs.out (show ρ1 47 = Value.pointer _ from hR.1) ((hr.ext hj.hp.below).recAt NR.len hx) rfl) ?_
            first | refine dx_val (i := 8) (fun ρ1 w1 hj hR => x_neN_f (show ρ1 44 = Value.agg (List.toArray _) from hR.1) (show ρ1 48 = Value.agg (List.toArray _) from hR.2.1) (by first | assumption | rfl)) ?_ | refine dx_val (i := 8) (fun ρ1 w1 hj hR => x_neN_t (show ρ1 44 = Value.agg (List.toArray _) from hR.1) (show ρ1 48 = Value.agg (List.toArray _) from hR.2.1) (by assumption)) ?_
            refine dx_val (i := 9) (fun ρ1 w1 hj hR => x_move (show ρ1 49 = Value.bool _ from hR.1)) ?_
            first | refine dx_skip (i := 10) rfl (fun ρ1 w1 hj hR => (show ρ1 50 = Value.bool _ from hR.2.1)) (by decide) ?_ | refine dx_skipU (i := 10) rfl (fun ρ1 w1 hj hR => (show ρ1 50 = undef from hR.2.1)) ?_ | refine dx_take (i := 10) rfl (fun ρ1 w1 hj hR => (show ρ1 50 = Value.bool _ from hR.2.1)) (fun ρ1 w1 hj hR => x_move (show ρ1 4 = Value.int _ _ from hR.1)) ?_
            first | refine dx_skip (i := 11) rfl (fun ρ1 w1 hj hR => (show ρ1 50 = Value.bool _ from hR.2.1)) (by decide) ?_ | refine dx_skipU (i := 11) rfl (fun ρ1 w1 hj hR => (show ρ1 50 = undef from hR.2.1)) ?_ | refine dx_take (i := 11) rfl (fun ρ1 w1 hj hR => (show ρ1 50 = Value.bool _ from hR.2.1)) (fun ρ1 w1 hj hR => x_gtr_t (show ρ1 51 = Value.int _ _ from hR.1) rfl (by omega)) ?_ | refine dx_take (i := 11) rfl (fun ρ1 w1 hj hR => (show ρ1 50 = Value.bool _ from hR.2.1)) (fun ρ1 w1 hj hR => x_gtr_f (show ρ1 51 = Value.int _ _ from hR.1) rfl (by omega)) ?_ | refine dx_take (i := 11) rfl (fun ρ1 w1 hj hR => (show ρ1 50 = Value.bool _ from hR.2.1)) (fun ρ1 w1 hj hR => x_gtr_v (show ρ1 51 = Value.int _ _ from hR.1) rfl) ?_
            first | refine dx_skip (i := 12) rfl (fun ρ1 w1 hj hR => (show ρ1 50 = Value.bool _ from hR.2.1)) (by decide) ?_ | refine dx_skipU (i := 12) rfl (fun ρ1 w1 hj hR => (show ρ1 50 = undef from hR.2.1)) ?_ | refine dx_take (i := 12) rfl (fun ρ1 w1 hj hR => (show ρ1 50 = Value.bool _ from hR.2.1)) (fun ρ1 w1 hj hR => x_move (show ρ1 52 = Value.bool _ from hR.1)) ?_
            first | refine dx_skip (i := 13) rfl (fun ρ1 w1 hj hR => (show ρ1 53 = Value.bool _ from hR.2.1)) (by decide) ?_ | refine dx_skipU (i := 13) rfl (fun ρ1 w1 hj hR => (show ρ1 53 = undef from hR.2.1)) ?_ | refine dx_take (i := 13) rfl (fun ρ1 w1 hj hR => (show ρ1 53 = Value.bool _ from hR.2.1)) (fun ρ1 w1 hj hR => x_move (show ρ1 0 = Value.slice _ _ _ from hR.1)) ?_
            first | refine dx_skip (i := 14) rfl (fun ρ1 w1 hj hR => (show ρ1 53 = Value.bool _ from hR.2.1)) (by decide) ?_ | refine dx_skipU (i := 14) rfl (fun ρ1 w1 hj hR => (show ρ1 53 = undef from hR.2.1)) ?_ | refine dx_take (i := 14) rfl (fun ρ1 w1 hj hR => (show ρ1 53 = Value.bool _ from hR.2.1)) (fun ρ1 w1 hj hR => x_move (show ρ1 4 = Value.int _ _ from hR.1)) ?_
            first | refine dx_skip (i := 15) rfl (fun ρ1 w1 hj hR => (show ρ1 53 = Value.bool _ from hR.2.1)) (by decide) ?_ | refine dx_skipU (i := 15) rfl (fun ρ1 w1 hj hR => (show ρ1 53 = undef from hR.2.1)) ?_ | refine dx_take (i := 15) rfl (fun ρ1 w1 hj hR => (show ρ1 53 = Value.bool _ from hR.2.1)) (fun ρ1 w1 hj hR => x_subi (show ρ1 55 = Value.int _ _ from hR.1) rfl (by omega) (by omega)) ?_
            first | refine dx_skip (i := 16) rfl (fun ρ1 w1 hj hR => (show ρ1 53 = Value.bool _ from hR.2.2.1)) (by decide) ?_ | refine dx_skipU (i := 16) rfl (fun ρ1 w1 hj hR => (show ρ1 53 = undef from hR.2.2.1)) ?_ | refine dx_take (i := 16) rfl (fun ρ1 w1 hj hR => (show ρ1 53 = Value.bool _ from hR.2.2.1)) (fun ρ1 w1 hj hR => x_indexSl (k := k) UIs.out TIs.size (show ρ1 54 = Value.slice _ _ _ from hR.1) (show ρ1 56 = Value.int _ _ from hR.2.1) (by omega) (by omega)) ?_
            first | refine dx_skip (i := 17) rfl (fun ρ1 w1 hj hR => (show ρ1 53 = Value.bool _ from hR.2.1)) (by decide) ?_ | refine dx_skipU (i := 17) rfl (fun ρ1 w1 hj hR => (show ρ1 53 = undef from hR.2.1)) ?_ | refine dx_take (i := 17) rfl (fun ρ1 w1 hj hR => (show ρ1 53 = Value.bool _ from hR.2.1)) (fun ρ1 w1 hj hR => x_load (vs := [_, _, _]) TIs.out (show ρ1 57 = Value.pointer _ from hR.1) ((hr.ext hj.hp.below).recAt NR.len hy) rfl) ?_
            first | refine dx_skip (i := 18) rfl (fun ρ1 w1 hj hR => (show ρ1 53 = Value.bool _ from hR.2.1)) (by decide) ?_ | refine dx_skipU (i := 18) rfl (fun ρ1 w1 hj hR => (show ρ1 53 = undef from hR.2.1)) ?_ | refine dx_take (i := 18) rfl (fun ρ1 w1 hj hR => (show ρ1 53 = Value.bool _ from hR.2.1)) (fun ρ1 w1 hj hR => x_move (show ρ1 0 = Value.slice _ _ _ from hR.1)) ?_
            first | refine dx_skip (i := 19) rfl (fun ρ1 w1 hj hR => (show ρ1 53 = Value.bool _ from hR.2.1)) (by decide) ?_ | refine dx_skipU (i := 19) rfl (fun ρ1 w1 hj hR => (show ρ1 53 = undef from hR.2.1)) ?_ | refine dx_take (i := 19) rfl (fun ρ1 w1 hj hR => (show ρ1 53 = Value.bool _ from hR.2.1)) (fun ρ1 w1 hj hR => x_move (show ρ1 4 = Value.int _ _ from hR.1)) ?_
            first | refine dx_skip (i := 20) rfl (fun ρ1 w1 hj hR => (show ρ1 53 = Value.bool _ from hR.2.2.1)) (by decide) ?_ | refine dx_skipU (i := 20) rfl (fun ρ1 w1 hj hR => (show ρ1 53 = undef from hR.2.2.1)) ?_ | refine dx_take (i := 20) rfl (fun ρ1 w1 hj hR => (show ρ1 53 = Value.bool _ from hR.2.2.1)) (fun ρ1 w1 hj hR => x_indexSl (k := (k + 1)) UIs.out TIs.size (show ρ1 59 = Value.slice _ _ _ from hR.1) (show ρ1 60 = Value.int _ _ from hR.2.1) (by omega) (by omega)) ?_
            first | refine dx_skip (i := 21) rfl (fun ρ1 w1 hj hR => (show ρ1 53 = Value.bool _ from hR.2.1)) (by decide) ?_ | refine dx_skipU (i := 21) rfl (fun ρ1 w1 hj hR => (show ρ1 53 = undef from hR.2.1)) ?_ | refine dx_take (i := 21) rfl (fun ρ1 w1 hj hR => (show ρ1 53 = Value.bool _ from hR.2.1)) (fun ρ1 w1 hj hR => x_load (vs := [_, _, _]) TIs.out (show ρ1 61 = Value.pointer _ from hR.1) ((hr.ext hj.hp.below).recAt NR.len hx) rfl) ?_
            refine dx_take_call (i := 22) rfl (fun ρ1 w1 hj hR => (show ρ1 53 = Value.bool _ from hR.2.2.1)) (fun ρ1 w1 hj hR => run_callf FnIs.out (evs_cons (show ρ1 58 = Value.agg (List.toArray _) from hR.1) (evs_cons (show ρ1 62 = Value.agg (List.toArray _) from hR.2.1) evs_nil))) (fun w1 hj => hds _ (hT.hp hj.hp)) ?_
            first | refine dx_skip (i := 23) rfl (fun ρ1 w1 hj hR => (show ρ1 53 = Value.bool _ from hR.2.1)) (by decide) ?_ | refine dx_skipU (i := 23) rfl (fun ρ1 w1 hj hR => (show ρ1 53 = undef from hR.2.1)) ?_ | refine dx_take (i := 23) rfl (fun ρ1 w1 hj hR => (show ρ1 53 = Value.bool _ from hR.2.1)) (fun ρ1 w1 hj hR => x_move (show ρ1 0 = Value.slice _ _ _ from hR.1)) ?_
            first | refine dx_skip (i := 24) rfl (fun ρ1 w1 hj hR => (show ρ1 53 = Value.bool _ from hR.2.1)) (by decide) ?_ | refine dx_skipU (i := 24) rfl (fun ρ1 w1 hj hR => (show ρ1 53 = undef from hR.2.1)) ?_ | refine dx_take (i := 24) rfl (fun ρ1 w1 hj hR => (show ρ1 53 = Value.bool _ from hR.2.1)) (fun ρ1 w1 hj hR => x_move (show ρ1 4 = Value.int _ _ from hR.1)) ?_
            first | refine dx_skip (i := 25) rfl (fun ρ1 w1 hj hR => (show ρ1 53 = Value.bool _ from hR.2.1)) (by decide) ?_ | refine dx_skipU (i := 25) rfl (fun ρ1 w1 hj hR => (show ρ1 53 = undef from hR.2.1)) ?_ | refine dx_take (i := 25) rfl (fun ρ1 w1 hj hR => (show ρ1 53 = Value.bool _ from hR.2.1)) (fun ρ1 w1 hj hR => x_subi (show ρ1 65 = Value.int _ _ from hR.1) rfl (by omega) (by omega)) ?_
            first | refine dx_skip (i := 26) rfl (fun ρ1 w1 hj hR => (show ρ1 53 = Value.bool _ from hR.2.2.1)) (by decide) ?_ | refine dx_skipU (i := 26) rfl (fun ρ1 w1 hj hR => (show ρ1 53 = undef from hR.2.2.1)) ?_ | refine dx_take (i := 26) rfl (fun ρ1 w1 hj hR => (show ρ1 53 = Value.bool _ from hR.2.2.1)) (fun ρ1 w1 hj hR => x_indexSl (k := k) UIs.out TIs.size (show ρ1 64 = Value.slice _ _ _ from hR.1) (show ρ1 66 = Value.int _ _ from hR.2.1) (by omega) (by omega)) ?_
            first | refine dx_skip (i := 27) rfl (fun ρ1 w1 hj hR => (show ρ1 53 = Value.bool _ from hR.2.1)) (by decide) ?_ | refine dx_skipU (i := 27) rfl (fun ρ1 w1 hj hR => (show ρ1 53 = undef from hR.2.1)) ?_ | refine dx_take (i := 27) rfl (fun ρ1 w1 hj hR => (show ρ1 53 = Value.bool _ from hR.2.1)) (fun ρ1 w1 hj hR => x_load (vs := [_, _, _]) TIs.out (show ρ1 67 = Value.pointer _ from hR.1) ((hr.ext hj.hp.below).recAt NR.len hy) rfl) ?_
            first | refine dx_skip (i := 28) rfl (fun ρ1 w1 hj hR => (show ρ1 53 = Value.bool _ from hR.2.1)) (by decide) ?_ | refine dx_skipU (i := 28) rfl (fun ρ1 w1 hj hR => (show ρ1 53 = undef from hR.2.1)) ?_ | refine dx_take (i := 28) rfl (fun ρ1 w1 hj hR => (show ρ1 53 = Value.bool _ from hR.2.1)) (fun ρ1 w1 hj hR => x_move (show ρ1 0 = Value.slice _ _ _ from hR.1)) ?_
            first | refine dx_skip (i := 29) rfl (fun ρ1 w1 hj hR => (show ρ1 53 = Value.bool _ from hR.2.1)) (by decide) ?_ | refine dx_skipU (i := 29) rfl (fun ρ1 w1 hj hR => (show ρ1 53 = undef from hR.2.1)) ?_ | refine dx_take (i := 29) rfl (fun ρ1 w1 hj hR => (show ρ1 53 = Value.bool _ from hR.2.1)) (fun ρ1 w1 hj hR => x_move (show ρ1 4 = Value.int _ _ from hR.1)) ?_
            first | refine dx_skip (i := 30) rfl (fun ρ1 w1 hj hR => (show ρ1 53 = Value.bool _ from hR.2.2.1)) (by decide) ?_ | refine dx_skipU (i := 30) rfl (fun ρ1 w1 hj hR => (show ρ1 53 = undef from hR.2.2.1)) ?_ | refine dx_take (i := 30) rfl (fun ρ1 w1 hj hR => (show ρ1 53 = Value.bool _ from hR.2.2.1)) (fun ρ1 w1 hj hR => x_indexSl (k := (k + 1)) UIs.out TIs.size (show ρ1 69 = Value.slice _ _ _ from hR.1) (show ρ1 70 = Value.int _ _ from hR.2.1) (by omega) (by omega)) ?_
            first | refine dx_skip (i := 31) rfl (fun ρ1 w1 hj hR => (show ρ1 53 = Value.bool _ from hR.2.1)) (by decide) ?_ | refine dx_skipU (i := 31) rfl (fun ρ1 w1 hj hR => (show ρ1 53 = undef from hR.2.1)) ?_ | refine dx_take (i := 31) rfl (fun ρ1 w1 hj hR => (show ρ1 53 = Value.bool _ from hR.2.1)) (fun ρ1 w1 hj hR => x_load (vs := [_, _, _]) TIs.out (show ρ1 71 = Value.pointer _ from hR.1) ((hr.ext hj.hp.below).recAt NR.len hx) rfl) ?_
            refine dx_take_call (i := 32) rfl (fun ρ1 w1 hj hR => (show ρ1 53 = Value.bool _ from hR.2.2.1)) (fun ρ1 w1 hj hR => run_callf FnIs.out (evs_cons (show ρ1 68 = Value.agg (List.toArray _) from hR.1) (evs_cons (show ρ1 72 = Value.agg (List.toArray _) from hR.2.1) evs_nil))) (fun w1 hj => hys _) ?_
            first | refine dx_skip (i := 33) rfl (fun ρ1 w1 hj hR => (show ρ1 53 = Value.bool _ from hR.2.2.1)) (by decide) ?_ | refine dx_skipU (i := 33) rfl (fun ρ1 w1 hj hR => (show ρ1 53 = undef from hR.2.2.1)) ?_ | refine dx_take (i := 33) rfl (fun ρ1 w1 hj hR => (show ρ1 53 = Value.bool _ from hR.2.2.1)) (fun ρ1 w1 hj hR => x_neN_f (show ρ1 63 = Value.agg (List.toArray _) from hR.1) (show ρ1 73 = Value.agg (List.toArray _) from hR.2.1) (by first | assumption | rfl)) ?_ | refine dx_take (i := 33) rfl (fun ρ1 w1 hj hR => (show ρ1 53 = Value.bool _ from hR.2.2.1)) (fun ρ1 w1 hj hR => x_neN_t (show ρ1 63 = Value.agg (List.toArray _) from hR.1) (show ρ1 73 = Value.agg (List.toArray _) from hR.2.1) (by assumption)) ?_
            first | refine dx_skip (i := 34) rfl (fun ρ1 w1 hj hR => (show ρ1 53 = Value.bool _ from hR.2.1)) (by decide) ?_ | refine dx_skipU (i := 34) rfl (fun ρ1 w1 hj hR => (show ρ1 53 = undef from hR.2.1)) ?_ | refine dx_take (i := 34) rfl (fun ρ1 w1 hj hR => (show ρ1 53 = Value.bool _ from hR.2.1)) (fun ρ1 w1 hj hR => x_move (show ρ1 74 = Value.bool _ from hR.1)) ?_
            first | refine dx_skip (i := 35) rfl (fun ρ1 w1 hj hR => (show ρ1 75 = Value.bool _ from hR.2.1)) (by decide) ?_ | refine dx_skipU (i := 35) rfl (fun ρ1 w1 hj hR => (show ρ1 75 = undef from hR.2.1)) ?_ | refine dx_take (i := 35) rfl (fun ρ1 w1 hj hR => (show ρ1 75 = Value.bool _ from hR.2.1)) (fun ρ1 w1 hj hR => x_move (show ρ1 0 = Value.slice _ _ _ from hR.1)) ?_
            first | refine dx_skip (i := 36) rfl (fun ρ1 w1 hj hR => (show ρ1 75 = Value.bool _ from hR.2.1)) (by decide) ?_ | refine dx_skipU (i := 36) rfl (fun ρ1 w1 hj hR => (show ρ1 75 = undef from hR.2.1)) ?_ | refine dx_take (i := 36) rfl (fun ρ1 w1 hj hR => (show ρ1 75 = Value.bool _ from hR.2.1)) (fun ρ1 w1 hj hR => x_move (show ρ1 4 = Value.int _ _ from hR.1)) ?_
            first | refine dx_skip (i := 37) rfl (fun ρ1 w1 hj hR => (show ρ1 75 = Value.bool _ from hR.2.1)) (by decide) ?_ | refine dx_skipU (i := 37) rfl (fun ρ1 w1 hj hR => (show ρ1 75 = undef from hR.2.1)) ?_ | refine dx_take (i := 37) rfl (fun ρ1 w1 hj hR => (show ρ1 75 = Value.bool _ from hR.2.1)) (fun ρ1 w1 hj hR => x_subi (show ρ1 77 = Value.int _ _ from hR.1) rfl (by omega) (by omega)) ?_
            first | refine dx_skip (i := 38) rfl (fun ρ1 w1 hj hR => (show ρ1 75 = Value.bool _ from hR.2.2.1)) (by decide) ?_ | refine dx_skipU (i := 38) rfl (fun ρ1 w1 hj hR => (show ρ1 75 = undef from hR.2.2.1)) ?_ | refine dx_take (i := 38) rfl (fun ρ1 w1 hj hR => (show ρ1 75 = Value.bool _ from hR.2.2.1)) (fun ρ1 w1 hj hR => x_indexSl (k := k) UIs.out TIs.size (show ρ1 76 = Value.slice _ _ _ from hR.1) (show ρ1 78 = Value.int _ _ from hR.2.1) (by omega) (by omega)) ?_
            first | refine dx_skip (i := 39) rfl (fun ρ1 w1 hj hR => (show ρ1 75 = Value.bool _ from hR.2.1)) (by decide) ?_ | refine dx_skipU (i := 39) rfl (fun ρ1 w1 hj hR => (show ρ1 75 = undef from hR.2.1)) ?_ | refine dx_take (i := 39) rfl (fun ρ1 w1 hj hR => (show ρ1 75 = Value.bool _ from hR.2.1)) (fun ρ1 w1 hj hR => x_load (vs := [_, _, _]) TIs.out (show ρ1 79 = Value.pointer _ from hR.1) ((hr.ext hj.hp.below).recAt NR.len hy) rfl) ?_
            first | refine dx_skip (i := 40) rfl (fun ρ1 w1 hj hR => (show ρ1 75 = Value.bool _ from hR.2.1)) (by decide) ?_ | refine dx_skipU (i := 40) rfl (fun ρ1 w1 hj hR => (show ρ1 75 = undef from hR.2.1)) ?_ | refine dx_take (i := 40) rfl (fun ρ1 w1 hj hR => (show ρ1 75 = Value.bool _ from hR.2.1)) (fun ρ1 w1 hj hR => x_move (show ρ1 0 = Value.slice _ _ _ from hR.1)) ?_
            first | refine dx_skip (i := 41) rfl (fun ρ1 w1 hj hR => (show ρ1 75 = Value.bool _ from hR.2.1)) (by decide) ?_ | refine dx_skipU (i := 41) rfl (fun ρ1 w1 hj hR => (show ρ1 75 = undef from hR.2.1)) ?_ | refine dx_take (i := 41) rfl (fun ρ1 w1 hj hR => (show ρ1 75 = Value.bool _ from hR.2.1)) (fun ρ1 w1 hj hR => x_move (show ρ1 4 = Value.int _ _ from hR.1)) ?_
            first | refine dx_skip (i := 42) rfl (fun ρ1 w1 hj hR => (show ρ1 75 = Value.bool _ from hR.2.2.1)) (by decide) ?_ | refine dx_skipU (i := 42) rfl (fun ρ1 w1 hj hR => (show ρ1 75 = undef from hR.2.2.1)) ?_ | refine dx_take (i := 42) rfl (fun ρ1 w1 hj hR => (show ρ1 75 = Value.bool _ from hR.2.2.1)) (fun ρ1 w1 hj hR => x_indexSl (k := (k + 1)) UIs.out TIs.size (show ρ1 81 = Value.slice _ _ _ from hR.1) (show ρ1 82 = Value.int _ _ from hR.2.1) (by omega) (by omega)) ?_
            first | refine dx_skip (i := 43) rfl (fun ρ1 w1 hj hR => (show ρ1 75 = Value.bool _ from hR.2.1)) (by decide) ?_ | refine dx_skipU (i := 43) rfl (fun ρ1 w1 hj hR => (show ρ1 75 = undef from hR.2.1)) ?_ | refine dx_take (i := 43) rfl (fun ρ1 w1 hj hR => (show ρ1 75 = Value.bool _ from hR.2.1)) (fun ρ1 w1 hj hR => x_load (vs := [_, _, _]) TIs.out (show ρ1 83 = Value.pointer _ from hR.1) ((hr.ext hj.hp.below).recAt NR.len hx) rfl) ?_
            refine dx_take_call (i := 44) rfl (fun ρ1 w1 hj hR => (show ρ1 75 = Value.bool _ from hR.2.2.1)) (fun ρ1 w1 hj hR => run_callf FnIs.out (evs_cons (show ρ1 80 = Value.agg (List.toArray _) from hR.1) (evs_cons (show ρ1 84 = Value.agg (List.toArray _) from hR.2.1) evs_nil))) (fun w1 hj => hdc _ (hT.hp hj.hp)) ?_
            first | refine dx_skip (i := 45) rfl (fun ρ1 w1 hj hR => (show ρ1 75 = Value.bool _ from hR.2.1)) (by decide) ?_ | refine dx_skipU (i := 45) rfl (fun ρ1 w1 hj hR => (show ρ1 75 = undef from hR.2.1)) ?_ | refine dx_take (i := 45) rfl (fun ρ1 w1 hj hR => (show ρ1 75 = Value.bool _ from hR.2.1)) (fun ρ1 w1 hj hR => x_move (show ρ1 0 = Value.slice _ _ _ from hR.1)) ?_
            first | refine dx_skip (i := 46) rfl (fun ρ1 w1 hj hR => (show ρ1 75 = Value.bool _ from hR.2.1)) (by decide) ?_ | refine dx_skipU (i := 46) rfl (fun ρ1 w1 hj hR => (show ρ1 75 = undef from hR.2.1)) ?_ | refine dx_take (i := 46) rfl (fun ρ1 w1 hj hR => (show ρ1 75 = Value.bool _ from hR.2.1)) (fun ρ1 w1 hj hR => x_move (show ρ1 4 = Value.int _ _ from hR.1)) ?_
            first | refine dx_skip (i := 47) rfl (fun ρ1 w1 hj hR => (show ρ1 75 = Value.bool _ from hR.2.1)) (by decide) ?_ | refine dx_skipU (i := 47) rfl (fun ρ1 w1 hj hR => (show ρ1 75 = undef from hR.2.1)) ?_ | refine dx_take (i := 47) rfl (fun ρ1 w1 hj hR => (show ρ1 75 = Value.bool _ from hR.2.1)) (fun ρ1 w1 hj hR => x_subi (show ρ1 87 = Value.int _ _ from hR.1) rfl (by omega) (by omega)) ?_
            first | refine dx_skip (i := 48) rfl (fun ρ1 w1 hj hR => (show ρ1 75 = Value.bool _ from hR.2.2.1)) (by decide) ?_ | refine dx_skipU (i := 48) rfl (fun ρ1 w1 hj hR => (show ρ1 75 = undef from hR.2.2.1)) ?_ | refine dx_take (i := 48) rfl (fun ρ1 w1 hj hR => (show ρ1 75 = Value.bool _ from hR.2.2.1)) (fun ρ1 w1 hj hR => x_indexSl (k := k) UIs.out TIs.size (show ρ1 86 = Value.slice _ _ _ from hR.1) (show ρ1 88 = Value.int _ _ from hR.2.1) (by omega) (by omega)) ?_
            first | refine dx_skip (i := 49) rfl (fun ρ1 w1 hj hR => (show ρ1 75 = Value.bool _ from hR.2.1)) (by decide) ?_ | refine dx_skipU (i := 49) rfl (fun ρ1 w1 hj hR => (show ρ1 75 = undef from hR.2.1)) ?_ | refine dx_take (i := 49) rfl (fun ρ1 w1 hj hR => (show ρ1 75 = Value.bool _ from hR.2.1)) (fun ρ1 w1 hj hR => x_load (vs := [_, _, _]) TIs.out (show ρ1 89 = Value.pointer _ from hR.1) ((hr.ext hj.hp.below).recAt NR.len hy) rfl) ?_
            first | refine dx_skip (i := 50) rfl (fun ρ1 w1 hj hR => (show ρ1 75 = Value.bool _ from hR.2.1)) (by decide) ?_ | refine dx_skipU (i := 50) rfl (fun ρ1 w1 hj hR => (show ρ1 75 = undef from hR.2.1)) ?_ | refine dx_take (i := 50) rfl (fun ρ1 w1 hj hR => (show ρ1 75 = Value.bool _ from hR.2.1)) (fun ρ1 w1 hj hR => x_move (show ρ1 0 = Value.slice _ _ _ from hR.1)) ?_
            first | refine dx_skip (i := 51) rfl (fun ρ1 w1 hj hR => (show ρ1 75 = Value.bool _ from hR.2.1)) (by decide) ?_ | refine dx_skipU (i := 51) rfl (fun ρ1 w1 hj hR => (show ρ1 75 = undef from hR.2.1)) ?_ | refine dx_take (i := 51) rfl (fun ρ1 w1 hj hR => (show ρ1 75 = Value.bool _ from hR.2.1)) (fun ρ1 w1 hj hR => x_move (show ρ1 4 = Value.int _ _ from hR.1)) ?_
            first | refine dx_skip (i := 52) rfl (fun ρ1 w1 hj hR => (show ρ1 75 = Value.bool _ from hR.2.2.1)) (by decide) ?_ | refine dx_skipU (i := 52) rfl (fun ρ1 w1 hj hR => (show ρ1 75 = undef from hR.2.2.1)) ?_ | refine dx_take (i := 52) rfl (fun ρ1 w1 hj hR => (show ρ1 75 = Value.bool _ from hR.2.2.1)) (fun ρ1 w1 hj hR => x_indexSl (k := (k + 1)) UIs.out TIs.size (show ρ1 91 = Value.slice _ _ _ from hR.1) (show ρ1 92 = Value.int _ _ from hR.2.1) (by omega) (by omega)) ?_
            first | refine dx_skip (i := 53) rfl (fun ρ1 w1 hj hR => (show ρ1 75 = Value.bool _ from hR.2.1)) (by decide) ?_ | refine dx_skipU (i := 53) rfl (fun ρ1 w1 hj hR => (show ρ1 75 = undef from hR.2.1)) ?_ | refine dx_take (i := 53) rfl (fun ρ1 w1 hj hR => (show ρ1 75 = Value.bool _ from hR.2.1)) (fun ρ1 w1 hj hR => x_load (vs := [_, _, _]) TIs.out (show ρ1 93 = Value.pointer _ from hR.1) ((hr.ext hj.hp.below).recAt NR.len hx) rfl) ?_
            refine dx_nil ?_
            intro f W hJ hV _
            have hb_9 := hJ.bl
            obtain ⟨v94, v93, v92, v91, v90, v89, v88, v87, v86, v85, v84, v83, v82, v81, v80, v79, v78, v77, v76, v75, v74, v73, v72, v71, v70, v69, v68, v67, v66, v65, v64, v63, v62, v61, v60, v59, v58, v57, v56, v55, v54, v53, v52, v51, v50, v49, v48, v47, v46, v45, v44, v43, v42, v41, _⟩ := hV
            have e41 : f 0 = _ := v41
            have e42 : f 1 = _ := v42
            have e43 : f 2 = _ := v43
            have e44 : f 3 = _ := v44
            have e45 : f 4 = _ := v45
            have e46 : f 5 = _ := v46
            have e47 : f 6 = _ := v47
            have e48 : f 7 = _ := v48
            have e49 : f 8 = _ := v49
            have e50 : f 9 = _ := v50
            have e51 : f 10 = _ := v51
            have e52 : f 11 = _ := v52
            have e53 : f 12 = _ := v53
            have e54 : f 13 = _ := v54
            have e55 : f 14 = _ := v55
            have e56 : f 15 = _ := v56
            have e57 : f 16 = _ := v57
            have e58 : f 17 = _ := v58
            have e59 : f 18 = _ := v59
            have e60 : f 19 = _ := v60
            have e61 : f 20 = _ := v61
            have e62 : f 21 = _ := v62
            have e63 : f 22 = _ := v63
            have e64 : f 23 = _ := v64
            have e65 : f 24 = _ := v65
            have e66 : f 25 = _ := v66
            have e67 : f 26 = _ := v67
            have e68 : f 27 = _ := v68
            have e69 : f 28 = _ := v69
            have e70 : f 29 = _ := v70
            have e71 : f 30 = _ := v71
            have e72 : f 31 = _ := v72
            have e73 : f 32 = _ := v73
            have e74 : f 33 = _ := v74
            have e75 : f 34 = _ := v75
            have e76 : f 35 = _ := v76
            have e77 : f 36 = _ := v77
            have e78 : f 37 = _ := v78
            have e79 : f 38 = _ := v79
            have e80 : f 39 = _ := v80
            have e81 : f 40 = _ := v81
            have e82 : f 41 = _ := v82
            have e83 : f 42 = _ := v83
            have e84 : f 43 = _ := v84
            have e85 : f 44 = _ := v85
            have e86 : f 45 = _ := v86
            have e87 : f 46 = _ := v87
            have e88 : f 47 = _ := v88
            have e89 : f 48 = _ := v89
            have e90 : f 49 = _ := v90
            have e91 : f 50 = _ := v91
            have e92 : f 51 = _ := v92
            have e93 : f 52 = _ := v93
            have e94 : f 53 = _ := v94
            replace hh := hJ.hp
            refine wl_cast (updL_K (eql_cons e94 (eql_cons e93 (eql_cons e92 (eql_cons e91 (eql_cons e90 (eql_cons e89 (eql_cons e88 (eql_cons e87 (eql_cons e86 (eql_cons e85 (eql_cons e84 (eql_cons e83 (eql_cons e82 (eql_cons e81 (eql_cons e80 (eql_cons e79 (eql_cons e78 (eql_cons e77 (eql_cons e76 (eql_cons e75 (eql_cons e74 (eql_cons e73 (eql_cons e72 (eql_cons e71 (eql_cons e70 (eql_cons e69 (eql_cons e68 (eql_cons e67 (eql_cons e66 (eql_cons e65 (eql_cons e64 (eql_cons e63 (eql_cons e62 (eql_cons e61 (eql_cons e60 (eql_cons e59 (eql_cons e58 (eql_cons e57 (eql_cons e56 (eql_cons e55 (eql_cons e54 (eql_cons e53 (eql_cons e52 (eql_cons e51 (eql_cons e50 (eql_cons e49 (eql_cons e48 (eql_cons e47 (eql_cons e46 (eql_cons e45 (eql_cons e44 (eql_cons e43 (eql_cons e42 (eql_cons e41 eql_nil))))))))))))))))))))))))))))))))))))))))))))))))))))))) ?_
            dsimp only [updK]
            clear e41 e42 e43 e44 e45 e46 e47 e48 e49 e50 e51 e52 e53 e54 e55 e56 e57 e58 e59 e60 e61 e62 e63 e64 e65 e66 e67 e68 e69 e70 e71 e72 e73 e74 e75 e76 e77 e78 e79 e80 e81 e82 e83 e84 e85 e86 e87 e88 e89 e90 e91 e92 e93 e94 hJ
            -- at guarded Op.call { callee := Callee.value (Operand.func 40), args := #[Operand.tmp 90, Op
            refine wl_guard_take rfl rfl ?_
            refine s_callf (hyc _) FnIs.out rfl (by decide) ?_
            rintro e_ w95 ⟨rfl, hb_⟩
            refine ⟨_, rfl, ?_⟩
            replace hh := hh.ext hb_
            first | (refine wl_guard_skip (by decide) rfl rfl (by decide) ?_) | (refine wl_guard_take rfl rfl ?_; (first | refine s_neq_t rfl rfl (by omega) (by decide) ?_ | refine s_neq_f rfl rfl (by omega) (by decide) ?_ | refine s_neq_v rfl rfl (by decide) ?_)) | (refine wl_guard_skipV (by decide) rfl rfl ?_)
            first | (refine wl_guard_skip (by decide) rfl rfl (by decide) ?_) | (refine wl_guard_take rfl rfl ?_; (first | refine s_pick_t rfl (ev_bool rfl) (by decide) ?_ | refine s_pick_f rfl (ev_bool rfl) (by decide) ?_)) | (refine wl_guard_skipV (by decide) rfl rfl ?_)
            first | (refine wl_guard_skip (by decide) rfl rfl (by decide) ?_) | (refine wl_guard_take rfl rfl ?_; (first | refine s_pick_t rfl (ev_bool rfl) (by decide) ?_ | refine s_pick_f rfl (ev_bool rfl) (by decide) ?_)) | (refine wl_guard_skipV (by decide) rfl rfl ?_)
            first | refine s_pick_t rfl (ev_bool rfl) (by decide) ?_ | refine s_pick_f rfl (ev_bool rfl) (by decide) ?_
            refine wl_end ?_
            refine wc_cond_f rfl ?_
            refine wc_skip ?_
            refine b_norm ?_
            refine k_then ?_
            refine wc_region ?_
            refine s_move (ev_int rfl) (by decide) ?_
            refine s_addi rfl rfl (by omega) (by omega) (by decide) ?_
            refine s_assign (ev_int rfl) (by decide) ?_
            refine wl_nil ?_
            refine k_then ?_
            -- at ('round',)
            refine ⟨⟨k + 1 + 1, by omega, rfl, hh⟩, by show n - (k + 1 + 1) < n - (k + 1); omega, ?_⟩
            (repeat (first | exact agree_mask _ _ _ | refine agree_upd rfl ?_ | refine agree_mask2 rfl ?_))
        · refine wc_seq ?_
          refine wc_seq ?_
          refine wc_region ?_
          refine s_move (ev_int rfl) (by decide) ?_
          refine s_move (ev_sl rfl) (by decide) ?_
          refine s_len_sl UIs.out rfl (by decide) ?_
          first | refine s_lss_t rfl rfl (by omega) (by decide) ?_ | refine s_lss_f rfl rfl (by omega) (by decide) ?_ | refine s_lss_v rfl rfl (by decide) ?_
          refine wl_end ?_
          refine wc_cond_f rfl ?_
          refine wc_exit ?_
          refine k_exit ?_
          refine k_exit ?_
          refine b_here ?_
          refine k_then ?_
          refine wc_seq ?_
          refine wc_region ?_
          -- at some 100 := Op.call { callee := Callee.value (Operand.func 9), args := #[], argTypes := #[] }
          refine s_callf (awake_calls _ (hT.hp hh)) FnIs.out rfl (by decide) ?_
          rintro e_ w100 ⟨rfl, hb_⟩
          refine ⟨_, rfl, ?_⟩
          replace hh := hh.ext hb_
          refine s_assign (ev_bool rfl) (by decide) ?_
          refine wl_end ?_
          refine wc_ret ?_
          -- at ('end', 'ret')
          refine ret1 (by first | exact .inr rfl | exact .inl rfl) rfl (v_bool rfl) ?_
          exact ⟨rfl, hh.below⟩
end Go.Proofs.YtgljgalcbbjfgaaGreatDoor
