/- The walk through the law DyadGrid. -/
import Derived.Test.YtgljgalcbbjfgaaDoorLawD
import Derived.Test.YtgljgalcbbjfgaaDoorDrawC
import Derived.Test.YtgljgalcbbjfgaaDoorDyRing
namespace Go.Proofs.YtgljgalcbbjfgaaDoor
open Go.RowKit
-- umode
-- cast
theorem grid_iff {x : Dyadic} {p : Int} : (x.roundDown p = x) ↔ (x = 0 ∨ -p ≤ (nR x).e) := by
  constructor
  · intro h
    by_cases h0 : x = 0
    · exact .inl h0
    · by_cases hk : -p ≤ (nR x).e
      · exact .inr hk
      · exact absurd h (ceil_cut h0 hk).2
  · rintro (h | h)
    · rw [h]; rfl
    · exact floor_keep h
theorem floor_le (x : Dyadic) (p : Int) : x.roundDown p ≤ x := Dyadic.roundDown_le
theorem floor_grid (x : Dyadic) (p : Int) : x.roundDown p = 0 ∨ -p ≤ (nR (x.roundDown p)).e := by
  by_cases hk : -p ≤ (nR x).e
  · rw [floor_keep hk]; exact .inr hk
  · rw [floor_cut hk]
    obtain ⟨_, b2, _⟩ := nR_bd (intAt x p) p
    rcases b2 with b2 | b2
    · left; rw [b2, owp_zero]
    · right; exact b2.1
theorem dyadGrid_calls (a : NR) (p : Int) (w : World) (hT : Tab w) :
    Calls Tryd.prog 4 #[.agg #[.bool a.neg, .string a.mag, .int .i64 a.e], .int .i64 p] w fun r w' => r = .returned (.bool true) ∧ Below w.heap.size w w' := by
  have hh := Hp.start w
  cases hlg : longB 150 500 [a] with
  | true =>
    refine calls_vc (N := 97) (l := [.agg #[.bool a.neg, .string a.mag, .int .i64 a.e], .int .i64 p]) Tryd.func4 rfl rfl (by simp) ?_
    refine wc_seq ?_
    refine wc_region ?_
    refine wl_box hh (cs := [_, _, _]) rfl rfl (by decide) ?_
    intro b2 w2 hh
    refine s_assign (ev_bool rfl) (by decide) ?_
    refine wl_end ?_
    refine wc_seq ?_
    refine wc_seq ?_
    refine wc_region ?_
    refine s_load (vs := [_, _, _]) TIs.out rfl (hh.rd_blk_at (i := 0) (n := 3) rfl rfl) rfl (by decide) ?_
    refine wl_buildSlice hh (cs := [_, _, _]) UIs.out TIs.out (evp_cons (ev_agg rfl) evp_nil) rfl rfl (by decide) (by decide) (by decide) rfl (by decide) ?_
    intro b11 w11 hh
    -- at some 12 := Op.call { callee := Callee.value (Operand.func 5), args := #[Operand.const (Value.int IntK
    refine s_callf (long_calls 150 500 _ 1 _ [a] _ (hh.sl_row (i := 0) rfl) (by omega) (by omega) (by omega)) FnIs.out rfl (by decide) ?_
    rintro e_ w12 ⟨rfl, hb_⟩
    refine ⟨_, rfl, ?_⟩
    replace hh := hh.ext hb_
    rw [hlg]
    refine s_move (ev_bool rfl) (by decide) ?_
    first | (refine wl_guard_skip (by decide) rfl rfl (by decide) ?_) | (refine wl_guard_take rfl rfl ?_; (refine s_move (ev_int rfl) (by decide) ?_)) | (refine wl_guard_skipV (by decide) rfl rfl ?_)
    first | (refine wl_guard_skip (by decide) rfl rfl (by decide) ?_) | (refine wl_guard_take rfl rfl ?_; (first | refine s_lss_t rfl rfl (by omega) (by decide) ?_ | refine s_lss_f rfl rfl (by omega) (by decide) ?_ | refine s_lss_v rfl rfl (by decide) ?_)) | (refine wl_guard_skipV (by decide) rfl rfl ?_)
    first | refine s_pick_t rfl (ev_bool rfl) (by decide) ?_ | refine s_pick_f rfl (ev_bool rfl) (by decide) ?_
    refine s_move (ev_bool rfl) (by decide) ?_
    first | (refine wl_guard_skip (by decide) rfl rfl (by decide) ?_) | (refine wl_guard_take rfl rfl ?_; (refine s_move (ev_int rfl) (by decide) ?_)) | (refine wl_guard_skipV (by decide) rfl rfl ?_)
    first | (refine wl_guard_skip (by decide) rfl rfl (by decide) ?_) | (refine wl_guard_take rfl rfl ?_; (first | refine s_gtr_t rfl rfl (by omega) (by decide) ?_ | refine s_gtr_f rfl rfl (by omega) (by decide) ?_ | refine s_gtr_v rfl rfl (by decide) ?_)) | (refine wl_guard_skipV (by decide) rfl rfl ?_)
    first | refine s_pick_t rfl (ev_bool rfl) (by decide) ?_ | refine s_pick_f rfl (ev_bool rfl) (by decide) ?_
    refine wl_end ?_
    refine wc_cond_t rfl ?_
    refine wc_seq ?_
    refine wc_region ?_
    -- at some 21 := Op.call { callee := Callee.value (Operand.func 6), args := #[], argTypes := #[] }
    refine s_callf (awake_calls _ (hT.hp hh)) FnIs.out rfl (by decide) ?_
    rintro e_ w21 ⟨rfl, hb_⟩
    refine ⟨_, rfl, ?_⟩
    replace hh := hh.ext hb_
    refine s_assign (ev_bool rfl) (by decide) ?_
    refine wl_end ?_
    refine wc_ret ?_
    refine k_ret ?_
    -- at ('end', 'ret')
    refine ret1 (by first | exact .inr rfl | exact .inl rfl) rfl (v_bool rfl) ?_
    exact ⟨rfl, hh.below⟩
  | false =>
    have hsh := short hlg a List.mem_cons_self
    have hsz : Sz 1700 a.d := short_sz (most := 150) (far := 500) hsh
    have hok : a.ok := ⟨by omega, by omega, by omega⟩
    by_cases h1 : p < -1000
    · refine calls_vc (N := 97) (l := [.agg #[.bool a.neg, .string a.mag, .int .i64 a.e], .int .i64 p]) Tryd.func4 rfl rfl (by simp) ?_
      refine wc_seq ?_
      refine wc_region ?_
      refine wl_box hh (cs := [_, _, _]) rfl rfl (by decide) ?_
      intro b2 w2 hh
      refine s_assign (ev_bool rfl) (by decide) ?_
      refine wl_end ?_
      refine wc_seq ?_
      refine wc_seq ?_
      refine wc_region ?_
      refine s_load (vs := [_, _, _]) TIs.out rfl (hh.rd_blk_at (i := 0) (n := 3) rfl rfl) rfl (by decide) ?_
      refine wl_buildSlice hh (cs := [_, _, _]) UIs.out TIs.out (evp_cons (ev_agg rfl) evp_nil) rfl rfl (by decide) (by decide) (by decide) rfl (by decide) ?_
      intro b11 w11 hh
      -- at some 12 := Op.call { callee := Callee.value (Operand.func 5), args := #[Operand.const (Value.int IntK
      refine s_callf (long_calls 150 500 _ 1 _ [a] _ (hh.sl_row (i := 0) rfl) (by omega) (by omega) (by omega)) FnIs.out rfl (by decide) ?_
      rintro e_ w12 ⟨rfl, hb_⟩
      refine ⟨_, rfl, ?_⟩
      replace hh := hh.ext hb_
      rw [hlg]
      refine s_move (ev_bool rfl) (by decide) ?_
      first | (refine wl_guard_skip (by decide) rfl rfl (by decide) ?_) | (refine wl_guard_take rfl rfl ?_; (refine s_move (ev_int rfl) (by decide) ?_)) | (refine wl_guard_skipV (by decide) rfl rfl ?_)
      first | (refine wl_guard_skip (by decide) rfl rfl (by decide) ?_) | (refine wl_guard_take rfl rfl ?_; (first | refine s_lss_t rfl rfl (by omega) (by decide) ?_ | refine s_lss_f rfl rfl (by omega) (by decide) ?_ | refine s_lss_v rfl rfl (by decide) ?_)) | (refine wl_guard_skipV (by decide) rfl rfl ?_)
      first | refine s_pick_t rfl (ev_bool rfl) (by decide) ?_ | refine s_pick_f rfl (ev_bool rfl) (by decide) ?_
      refine s_move (ev_bool rfl) (by decide) ?_
      first | (refine wl_guard_skip (by decide) rfl rfl (by decide) ?_) | (refine wl_guard_take rfl rfl ?_; (refine s_move (ev_int rfl) (by decide) ?_)) | (refine wl_guard_skipV (by decide) rfl rfl ?_)
      first | (refine wl_guard_skip (by decide) rfl rfl (by decide) ?_) | (refine wl_guard_take rfl rfl ?_; (first | refine s_gtr_t rfl rfl (by omega) (by decide) ?_ | refine s_gtr_f rfl rfl (by omega) (by decide) ?_ | refine s_gtr_v rfl rfl (by decide) ?_)) | (refine wl_guard_skipV (by decide) rfl rfl ?_)
      first | refine s_pick_t rfl (ev_bool rfl) (by decide) ?_ | refine s_pick_f rfl (ev_bool rfl) (by decide) ?_
      refine wl_end ?_
      refine wc_cond_t rfl ?_
      refine wc_seq ?_
      refine wc_region ?_
      -- at some 21 := Op.call { callee := Callee.value (Operand.func 6), args := #[], argTypes := #[] }
      refine s_callf (awake_calls _ (hT.hp hh)) FnIs.out rfl (by decide) ?_
      rintro e_ w21 ⟨rfl, hb_⟩
      refine ⟨_, rfl, ?_⟩
      replace hh := hh.ext hb_
      refine s_assign (ev_bool rfl) (by decide) ?_
      refine wl_end ?_
      refine wc_ret ?_
      refine k_ret ?_
      -- at ('end', 'ret')
      refine ret1 (by first | exact .inr rfl | exact .inl rfl) rfl (v_bool rfl) ?_
      exact ⟨rfl, hh.below⟩
    · by_cases h2 : 1000 < p
      · refine calls_vc (N := 97) (l := [.agg #[.bool a.neg, .string a.mag, .int .i64 a.e], .int .i64 p]) Tryd.func4 rfl rfl (by simp) ?_
        refine wc_seq ?_
        refine wc_region ?_
        refine wl_box hh (cs := [_, _, _]) rfl rfl (by decide) ?_
        intro b2 w2 hh
        refine s_assign (ev_bool rfl) (by decide) ?_
        refine wl_end ?_
        refine wc_seq ?_
        refine wc_seq ?_
        refine wc_region ?_
        refine s_load (vs := [_, _, _]) TIs.out rfl (hh.rd_blk_at (i := 0) (n := 3) rfl rfl) rfl (by decide) ?_
        refine wl_buildSlice hh (cs := [_, _, _]) UIs.out TIs.out (evp_cons (ev_agg rfl) evp_nil) rfl rfl (by decide) (by decide) (by decide) rfl (by decide) ?_
        intro b11 w11 hh
        -- at some 12 := Op.call { callee := Callee.value (Operand.func 5), args := #[Operand.const (Value.int IntK
        refine s_callf (long_calls 150 500 _ 1 _ [a] _ (hh.sl_row (i := 0) rfl) (by omega) (by omega) (by omega)) FnIs.out rfl (by decide) ?_
        rintro e_ w12 ⟨rfl, hb_⟩
        refine ⟨_, rfl, ?_⟩
        replace hh := hh.ext hb_
        rw [hlg]
        refine s_move (ev_bool rfl) (by decide) ?_
        first | (refine wl_guard_skip (by decide) rfl rfl (by decide) ?_) | (refine wl_guard_take rfl rfl ?_; (refine s_move (ev_int rfl) (by decide) ?_)) | (refine wl_guard_skipV (by decide) rfl rfl ?_)
        first | (refine wl_guard_skip (by decide) rfl rfl (by decide) ?_) | (refine wl_guard_take rfl rfl ?_; (first | refine s_lss_t rfl rfl (by omega) (by decide) ?_ | refine s_lss_f rfl rfl (by omega) (by decide) ?_ | refine s_lss_v rfl rfl (by decide) ?_)) | (refine wl_guard_skipV (by decide) rfl rfl ?_)
        first | refine s_pick_t rfl (ev_bool rfl) (by decide) ?_ | refine s_pick_f rfl (ev_bool rfl) (by decide) ?_
        refine s_move (ev_bool rfl) (by decide) ?_
        first | (refine wl_guard_skip (by decide) rfl rfl (by decide) ?_) | (refine wl_guard_take rfl rfl ?_; (refine s_move (ev_int rfl) (by decide) ?_)) | (refine wl_guard_skipV (by decide) rfl rfl ?_)
        first | (refine wl_guard_skip (by decide) rfl rfl (by decide) ?_) | (refine wl_guard_take rfl rfl ?_; (first | refine s_gtr_t rfl rfl (by omega) (by decide) ?_ | refine s_gtr_f rfl rfl (by omega) (by decide) ?_ | refine s_gtr_v rfl rfl (by decide) ?_)) | (refine wl_guard_skipV (by decide) rfl rfl ?_)
        first | refine s_pick_t rfl (ev_bool rfl) (by decide) ?_ | refine s_pick_f rfl (ev_bool rfl) (by decide) ?_
        refine wl_end ?_
        refine wc_cond_t rfl ?_
        refine wc_seq ?_
        refine wc_region ?_
        -- at some 21 := Op.call { callee := Callee.value (Operand.func 6), args := #[], argTypes := #[] }
        refine s_callf (awake_calls _ (hT.hp hh)) FnIs.out rfl (by decide) ?_
        rintro e_ w21 ⟨rfl, hb_⟩
        refine ⟨_, rfl, ?_⟩
        replace hh := hh.ext hb_
        refine s_assign (ev_bool rfl) (by decide) ?_
        refine wl_end ?_
        refine wc_ret ?_
        refine k_ret ?_
        -- at ('end', 'ret')
        refine ret1 (by first | exact .inr rfl | exact .inl rfl) rfl (v_bool rfl) ?_
        exact ⟨rfl, hh.below⟩
      · have sF : Sz 5114 (a.d.roundDown p) := hsz.floor (by omega) (by omega)
        have sC : Sz 5114 (-((-a.d).roundDown p)) := (hsz.neg.floor (by omega) (by omega)).neg
        have hle : a.d.roundDown p ≤ a.d := floor_le _ _
        have hge : a.d ≤ -((-a.d).roundDown p) := by have := floor_le (-a.d) p; grind
        have gF := floor_grid a.d p
        have gC : -((-a.d).roundDown p) = 0 ∨ -p ≤ (nR (-((-a.d).roundDown p))).e := by
          rw [(neg_bd _).2]
          rcases floor_grid (-a.d) p with h | h
          · left; rw [h]; rfl
          · right; exact h
        have hfl := fun w1 hT1 => dFloor_calls a p w1 hT1 hok (by omega) (by omega)
        have hce := fun w1 hT1 => dCeil_calls a p w1 hT1 hok (hsz.ok (by omega)) (by omega) (by omega)
        have hkp : a.d.roundDown p = a.d → -((-a.d).roundDown p) = a.d := ceil_keep
        have hst := fun h => ceil_step (x := a.d) (p := p) h
        have hgi := grid_iff (x := a.d) (p := p)
        generalize a.d.roundDown p = F at *
        generalize -((-a.d).roundDown p) = C at *
        have n1 : ¬ 0 < cmpD F a.d := by rw [cmpD_gt]; grind
        have n2 : ¬ 0 < cmpD a.d C := by rw [cmpD_gt]; grind
        have hc1 := fun w1 hT1 => dCmp_calls (nR F) a w1 hT1 (sF.ok (by omega)) hok
        have hc2 := fun w1 hT1 => dCmp_calls a (nR C) w1 hT1 hok (sC.ok (by omega))
        have hsb := fun w1 hT1 => dSub_calls (nR C) (nR F) w1 hT1 (sC.ok (by omega)) (sF.ok (by omega)) 5114 (by rw [nR_d]; exact sC) (by rw [nR_d]; exact sF) (by omega)
        have s1 : Sz 9 ((1 : Int) : Dyadic) := Sz.two (k := 1) (p := 0) (by omega) (by omega)
        have hsh := fun w1 hT1 => dShift_calls (nR ((1 : Int) : Dyadic)) (-p) w1 hT1 (by have := (s1.ok (by omega)).1; omega) (by have := (s1.ok (by omega)).2; omega) (by have := (s1.ok (by omega)).2; omega) (by omega) (by omega)
        rw [nR_d] at hc1 hc2
        simp only [nR_d] at hsb hsh
        rw [show ((1 : Int) : Dyadic) * twoD (-p) = Dyadic.ofIntWithPrec 1 p by rw [twoD, Int.neg_neg]; show (1 : Dyadic) * _ = _; rw [Dyadic.one_mul]] at hsh
        by_cases hg : a.d = 0 ∨ -p ≤ (nR a.d).e
        · have hFx := hgi.2 hg
          have hCx := hkp hFx
          have hFC : nR F = nR C := by rw [hFx, hCx]
          by_cases z : a.d = 0
          · have hz := (nR_zero_iff a.d).2 z
            refine calls_vc (N := 97) (l := [.agg #[.bool a.neg, .string a.mag, .int .i64 a.e], .int .i64 p]) Tryd.func4 rfl rfl (by simp) ?_
            refine wc_seq ?_
            refine wc_region ?_
            refine wl_box hh (cs := [_, _, _]) rfl rfl (by decide) ?_
            intro b2 w2 hh
            refine s_assign (ev_bool rfl) (by decide) ?_
            refine wl_end ?_
            refine wc_seq ?_
            refine wc_seq ?_
            refine wc_region ?_
            refine s_load (vs := [_, _, _]) TIs.out rfl (hh.rd_blk_at (i := 0) (n := 3) rfl rfl) rfl (by decide) ?_
            refine wl_buildSlice hh (cs := [_, _, _]) UIs.out TIs.out (evp_cons (ev_agg rfl) evp_nil) rfl rfl (by decide) (by decide) (by decide) rfl (by decide) ?_
            intro b11 w11 hh
            -- at some 12 := Op.call { callee := Callee.value (Operand.func 5), args := #[Operand.const (Value.int IntK
            refine s_callf (long_calls 150 500 _ 1 _ [a] _ (hh.sl_row (i := 0) rfl) (by omega) (by omega) (by omega)) FnIs.out rfl (by decide) ?_
            rintro e_ w12 ⟨rfl, hb_⟩
            refine ⟨_, rfl, ?_⟩
            replace hh := hh.ext hb_
            rw [hlg]
            refine s_move (ev_bool rfl) (by decide) ?_
            first | (refine wl_guard_skip (by decide) rfl rfl (by decide) ?_) | (refine wl_guard_take rfl rfl ?_; (refine s_move (ev_int rfl) (by decide) ?_)) | (refine wl_guard_skipV (by decide) rfl rfl ?_)
            first | (refine wl_guard_skip (by decide) rfl rfl (by decide) ?_) | (refine wl_guard_take rfl rfl ?_; (first | refine s_lss_t rfl rfl (by omega) (by decide) ?_ | refine s_lss_f rfl rfl (by omega) (by decide) ?_ | refine s_lss_v rfl rfl (by decide) ?_)) | (refine wl_guard_skipV (by decide) rfl rfl ?_)
            first | refine s_pick_t rfl (ev_bool rfl) (by decide) ?_ | refine s_pick_f rfl (ev_bool rfl) (by decide) ?_
            refine s_move (ev_bool rfl) (by decide) ?_
            first | (refine wl_guard_skip (by decide) rfl rfl (by decide) ?_) | (refine wl_guard_take rfl rfl ?_; (refine s_move (ev_int rfl) (by decide) ?_)) | (refine wl_guard_skipV (by decide) rfl rfl ?_)
            first | (refine wl_guard_skip (by decide) rfl rfl (by decide) ?_) | (refine wl_guard_take rfl rfl ?_; (first | refine s_gtr_t rfl rfl (by omega) (by decide) ?_ | refine s_gtr_f rfl rfl (by omega) (by decide) ?_ | refine s_gtr_v rfl rfl (by decide) ?_)) | (refine wl_guard_skipV (by decide) rfl rfl ?_)
            first | refine s_pick_t rfl (ev_bool rfl) (by decide) ?_ | refine s_pick_f rfl (ev_bool rfl) (by decide) ?_
            refine wl_end ?_
            refine wc_cond_f rfl ?_
            refine wc_skip ?_
            refine k_then ?_
            refine wc_seq ?_
            -- at the drawn region 3
            refine wc_drawn2 [6, 7] [] [0, 0, 3, 0, 0, 31, 0, 0, 255, 511] 8 [[(2, none)], [(1, none)], [(22, some 0), (23, some 1)], [(2, none)], [(1, none)], [(25, some 3), (26, some 4)], [], []] [(7, 6), (6, 5), (5, 27), (4, 26), (3, 25), (2, 24), (1, 23), (0, 22)] hh mixed (by kernel_rfl) (alok_cons rfl TIs.out (alok_cons rfl TIs.out alok_nil)) rfl (by repeat (first | exact np_ret | refine np_then ?_ | refine np_blk ?_)) ?_
            refine dx_val (i := 0) (fun ρ1 w1 hj hR => x_load (vs := [_, _, _]) TIs.out (show ρ1 2 = Value.pointer _ from hR.1) (hj.hp.rd_blk_at (i := 1) (n := 3) rfl rfl) rfl) ?_
            refine dx_val (i := 1) (fun ρ1 w1 hj hR => x_move (show ρ1 1 = Value.int _ _ from hR.1)) ?_
            refine dx_call (i := 2) (fun ρ1 w1 hj hR => run_callf FnIs.out (evs_cons (show ρ1 22 = Value.agg (List.toArray _) from hR.1) (evs_cons (show ρ1 23 = Value.int _ _ from hR.2.1) evs_nil))) (fun w1 hj => hfl _ (hT.hp hj.hp)) ?_
            refine dx_val (i := 3) (fun ρ1 w1 hj hR => x_load (vs := [_, _, _]) TIs.out (show ρ1 2 = Value.pointer _ from hR.1) (hj.hp.rd_blk_at (i := 1) (n := 3) rfl rfl) rfl) ?_
            refine dx_val (i := 4) (fun ρ1 w1 hj hR => x_move (show ρ1 1 = Value.int _ _ from hR.1)) ?_
            refine dx_call (i := 5) (fun ρ1 w1 hj hR => run_callf FnIs.out (evs_cons (show ρ1 25 = Value.agg (List.toArray _) from hR.1) (evs_cons (show ρ1 26 = Value.int _ _ from hR.2.1) evs_nil))) (fun w1 hj => hce _ (hT.hp hj.hp)) ?_
            refine dx_gen (i := 6) (NewVar _ 25 _) NewVar.ext (fun ρ1 w1 hj hR => og_alloc TIs.out hj.bl (fun v w2 h hb => ⟨hb, h⟩)) ?_
            refine dx_gen (i := 7) (NewVar _ 25 _) NewVar.ext (fun ρ1 w1 hj hR => og_alloc TIs.out hj.bl (fun v w2 h hb => ⟨hb, h⟩)) ?_
            refine dx_nil ?_
            intro f W hJ hV hD
            have hb_3 := hJ.bl
            obtain ⟨v6, v5, v27, v26, v25, v24, v23, v22, _⟩ := hV
            have e22 : f 0 = _ := v22
            have e23 : f 1 = _ := v23
            have e24 : f 2 = _ := v24
            have e25 : f 3 = _ := v25
            have e26 : f 4 = _ := v26
            have e27 : f 5 = _ := v27
            obtain ⟨b5, e5, hl5, hc5⟩ : NewVar _ _ _ (f 6) W := v5
            obtain ⟨b6, e6, hl6, hc6⟩ : NewVar _ _ _ (f 7) W := v6
            have hne := ptr_ne hD (i := 6) (j := 7) (by decide) (by decide) (by decide) e5 e6
            replace hh := hJ.newVar2 hh hl5 hc5 hl6 hc6 hne
            clear hD hne
            refine wl_cast (updL_K (eql_cons e6 (eql_cons e5 (eql_cons e27 (eql_cons e26 (eql_cons e25 (eql_cons e24 (eql_cons e23 (eql_cons e22 eql_nil))))))))) ?_
            dsimp only [updK]
            clear e22 e23 e24 e25 e26 e27 e5 e6 hJ
            refine wl_store hh (i := 1) (vs := [_, _, _]) rfl rfl rfl rfl TIs.out rfl (by simp) rfl ?_
            intro ws hh
            replace hh : Hp _ (_ :: .blk _ _ [_, _, _] _ :: _) _ := hh
            refine wl_store hh (i := 0) (vs := [_, _, _]) rfl rfl rfl rfl TIs.out rfl (by simp) rfl ?_
            intro ws hh
            replace hh : Hp _ (.blk _ _ [_, _, _] _ :: _) _ := hh
            refine wl_end ?_
            refine wc_seq ?_
            refine wc_region ?_
            refine s_load (vs := [_, _, _]) TIs.out rfl (hh.rd_blk_at (i := 3) (n := 3) rfl rfl) rfl (by decide) ?_
            -- at some 29 := Op.call { callee := Callee.value (Operand.func 11), args := #[Operand.tmp 28], argTypes :=
            refine s_callf (dForm_calls a _ (hT.hp hh) (by omega) (by omega) (by omega)) FnIs.out rfl (by decide) ?_
            rintro e_ w29 ⟨rfl, hb_⟩
            refine ⟨_, rfl, ?_⟩
            replace hh := hh.ext hb_
            refine wl_alloc hh TIs.out (by decide) ?_
            intro b7 w7 hh
            refine wl_store hh (i := 0) (vs := [_, _, _]) rfl rfl rfl rfl TIs.out rfl (by simp) rfl ?_
            intro ws hh
            replace hh : Hp _ (.blk _ _ [_, _, _] _ :: _) _ := hh
            refine wl_end ?_
            refine wc_seq ?_
            refine wc_region ?_
            refine s_load (vs := [_, _, _]) TIs.out rfl (hh.rd_blk_at (i := 0) (n := 3) rfl rfl) rfl (by decide) ?_
            refine s_build (cs := [_, _, _]) TIs.out PIs.out rfl rfl (by decide) ?_
            first | refine s_eqN_t rfl rfl (by first | assumption | rfl) (by decide) ?_ | refine s_eqN_f rfl rfl (by assumption) (by decide) ?_
            refine s_move (ev_bool rfl) (by decide) ?_
            first | (refine wl_guard_skip (by decide) rfl rfl (by decide) ?_) | (refine wl_guard_take rfl rfl ?_; (refine s_fieldAddr (off := 2) FIs.out rfl (by decide) ?_)) | (refine wl_guard_skipV (by decide) rfl rfl ?_)
            first | (refine wl_guard_skip (by decide) rfl rfl (by decide) ?_) | (refine wl_guard_take rfl rfl ?_; (refine s_load1 TIs.out rfl (hh.cell_blk (i := 0) rfl rfl) (by decide) ?_)) | (refine wl_guard_skipV (by decide) rfl rfl ?_)
            first | (refine wl_guard_skip (by decide) rfl rfl (by decide) ?_) | (refine wl_guard_take rfl rfl ?_; (refine s_move (ev_int rfl) (by decide) ?_)) | (refine wl_guard_skipV (by decide) rfl rfl ?_)
            first | (refine wl_guard_skip (by decide) rfl rfl (by decide) ?_) | (refine wl_guard_take rfl rfl ?_; (refine s_negi rfl (by omega) (by omega) (by decide) ?_)) | (refine wl_guard_skipV (by decide) rfl rfl ?_)
            first | (refine wl_guard_skip (by decide) rfl rfl (by decide) ?_) | (refine wl_guard_take rfl rfl ?_; (first | refine s_geq_t rfl rfl (by omega) (by decide) ?_ | refine s_geq_f rfl rfl (by omega) (by decide) ?_ | refine s_geq_v rfl rfl (by decide) ?_)) | (refine wl_guard_skipV (by decide) rfl rfl ?_)
            first | refine s_pick_t rfl (ev_bool rfl) (by decide) ?_ | refine s_pick_f rfl (ev_bool rfl) (by decide) ?_
            refine s_assign (ev_bool rfl) (by decide) ?_
            refine wl_end ?_
            refine wc_seq ?_
            refine wc_region ?_
            -- at some 40 := Op.call { callee := Callee.value (Operand.func 15), args := #[Operand.const (Value.int Int
            refine s_callf (dOf_calls 1 _ (hT.hp hh) (by omega) (by omega)) FnIs.out rfl (by decide) ?_
            rintro e_ w40 ⟨rfl, hb_⟩
            refine ⟨_, rfl, ?_⟩
            replace hh := hh.ext hb_
            refine s_move (ev_int rfl) (by decide) ?_
            refine s_negi rfl (by omega) (by omega) (by decide) ?_
            -- at some 43 := Op.call { callee := Callee.value (Operand.func 9), args := #[Operand.tmp 40, Operand.tmp 4
            refine s_callf (hsh _ (hT.hp hh)) FnIs.out rfl (by decide) ?_
            rintro e_ w43 ⟨rfl, hb_⟩
            refine ⟨_, rfl, ?_⟩
            replace hh := hh.ext hb_
            refine wl_alloc hh TIs.out (by decide) ?_
            intro b9 w9 hh
            refine wl_store hh (i := 0) (vs := [_, _, _]) rfl rfl rfl rfl TIs.out rfl (by simp) rfl ?_
            intro ws hh
            replace hh : Hp _ (.blk _ _ [_, _, _] _ :: _) _ := hh
            refine wl_end ?_
            refine wc_seq ?_
            refine wc_seq ?_
            -- at the drawn region 7
            refine wc_drawn2 [] [] [0, 0, 3, 7, 15, 31, 31, 127, 255, 511, 1023, 2047, 2047, 8191, 2047, 32767, 65535, 131071, 262143, 524287, 1048575, 2097151, 2097151, 8388607, 2097151, 33554431, 67108863, 134217727] 25 [[(5, none)], [(2, none)], [(44, some 0), (45, some 1)], [(46, some 2)], [(47, some 3)], [(2, none), (48, some 4)], [(6, none), (48, some 4)], [(49, some 5), (50, some 6), (48, some 4)], [(51, some 7), (48, some 4)], [(48, some 4), (52, some 8)], [(53, some 9)], [(5, none), (54, some 10)], [(6, none), (54, some 10)], [(55, some 11), (56, some 12), (54, some 10)], [(8, none), (54, some 10)], [(57, some 13), (58, some 14), (54, some 10)], [(54, some 10), (59, some 15)], [(60, some 16)], [(8, none), (61, some 17)], [(62, some 18), (61, some 17)], [(63, some 19), (61, some 17)], [(6, none), (64, some 20)], [(5, none), (64, some 20)], [(65, some 21), (66, some 22), (64, some 20)], [(9, none), (64, some 20)]] [(24, 68), (23, 67), (22, 66), (21, 65), (20, 64), (19, 63), (18, 62), (17, 61), (16, 60), (15, 59), (14, 58), (13, 57), (12, 56), (11, 55), (10, 54), (9, 53), (8, 52), (7, 51), (6, 50), (5, 49), (4, 48), (3, 47), (2, 46), (1, 45), (0, 44)] hh mixed (by kernel_rfl) alok_nil rfl (by repeat (first | exact np_ret | refine np_then ?_ | refine np_blk ?_)) ?_
            refine dx_val (i := 0) (fun ρ1 w1 hj hR => x_load (vs := [_, _, _]) TIs.out (show ρ1 5 = Value.pointer _ from hR.1) (hj.hp.rd_blk_at (i := 3) (n := 3) rfl rfl) rfl) ?_
            refine dx_val (i := 1) (fun ρ1 w1 hj hR => x_load (vs := [_, _, _]) TIs.out (show ρ1 2 = Value.pointer _ from hR.1) (hj.hp.rd_blk_at (i := 5) (n := 3) rfl rfl) rfl) ?_
            refine dx_call (i := 2) (fun ρ1 w1 hj hR => run_callf FnIs.out (evs_cons (show ρ1 44 = Value.agg (List.toArray _) from hR.1) (evs_cons (show ρ1 45 = Value.agg (List.toArray _) from hR.2.1) evs_nil))) (fun w1 hj => hc1 _ (hT.hp hj.hp)) ?_
            first | refine dx_val (i := 3) (fun ρ1 w1 hj hR => x_gtr_t (show ρ1 46 = Value.int _ _ from hR.1) rfl (by omega)) ?_ | refine dx_val (i := 3) (fun ρ1 w1 hj hR => x_gtr_f (show ρ1 46 = Value.int _ _ from hR.1) rfl (by omega)) ?_ | refine dx_val (i := 3) (fun ρ1 w1 hj hR => x_gtr_v (show ρ1 46 = Value.int _ _ from hR.1) rfl) ?_
            refine dx_val (i := 4) (fun ρ1 w1 hj hR => x_move (show ρ1 47 = Value.bool _ from hR.1)) ?_
            first | refine dx_skip (i := 5) rfl (fun ρ1 w1 hj hR => (show ρ1 48 = Value.bool _ from hR.2.1)) (by decide) ?_ | refine dx_skipU (i := 5) rfl (fun ρ1 w1 hj hR => (show ρ1 48 = undef from hR.2.1)) ?_ | refine dx_take (i := 5) rfl (fun ρ1 w1 hj hR => (show ρ1 48 = Value.bool _ from hR.2.1)) (fun ρ1 w1 hj hR => x_load (vs := [_, _, _]) TIs.out (show ρ1 2 = Value.pointer _ from hR.1) (hj.hp.rd_blk_at (i := 5) (n := 3) rfl rfl) rfl) ?_
            first | refine dx_skip (i := 6) rfl (fun ρ1 w1 hj hR => (show ρ1 48 = Value.bool _ from hR.2.1)) (by decide) ?_ | refine dx_skipU (i := 6) rfl (fun ρ1 w1 hj hR => (show ρ1 48 = undef from hR.2.1)) ?_ | refine dx_take (i := 6) rfl (fun ρ1 w1 hj hR => (show ρ1 48 = Value.bool _ from hR.2.1)) (fun ρ1 w1 hj hR => x_load (vs := [_, _, _]) TIs.out (show ρ1 6 = Value.pointer _ from hR.1) (hj.hp.rd_blk_at (i := 2) (n := 3) rfl rfl) rfl) ?_
            refine dx_take_call (i := 7) rfl (fun ρ1 w1 hj hR => (show ρ1 48 = Value.bool _ from hR.2.2.1)) (fun ρ1 w1 hj hR => run_callf FnIs.out (evs_cons (show ρ1 49 = Value.agg (List.toArray _) from hR.1) (evs_cons (show ρ1 50 = Value.agg (List.toArray _) from hR.2.1) evs_nil))) (fun w1 hj => hc2 _ (hT.hp hj.hp)) ?_
            first | refine dx_skip (i := 8) rfl (fun ρ1 w1 hj hR => (show ρ1 48 = Value.bool _ from hR.2.1)) (by decide) ?_ | refine dx_skipU (i := 8) rfl (fun ρ1 w1 hj hR => (show ρ1 48 = undef from hR.2.1)) ?_ | refine dx_take (i := 8) rfl (fun ρ1 w1 hj hR => (show ρ1 48 = Value.bool _ from hR.2.1)) (fun ρ1 w1 hj hR => x_gtr_t (show ρ1 51 = Value.int _ _ from hR.1) rfl (by omega)) ?_ | refine dx_take (i := 8) rfl (fun ρ1 w1 hj hR => (show ρ1 48 = Value.bool _ from hR.2.1)) (fun ρ1 w1 hj hR => x_gtr_f (show ρ1 51 = Value.int _ _ from hR.1) rfl (by omega)) ?_ | refine dx_take (i := 8) rfl (fun ρ1 w1 hj hR => (show ρ1 48 = Value.bool _ from hR.2.1)) (fun ρ1 w1 hj hR => x_gtr_v (show ρ1 51 = Value.int _ _ from hR.1) rfl) ?_
            first | refine dx_val (i := 9) (fun ρ1 w1 hj hR => x_pick_t (show ρ1 48 = Value.bool _ from hR.1) rfl) ?_ | refine dx_val (i := 9) (fun ρ1 w1 hj hR => x_pick_f (show ρ1 48 = Value.bool _ from hR.1) (show ρ1 52 = Value.bool _ from hR.2.1)) ?_
            refine dx_val (i := 10) (fun ρ1 w1 hj hR => x_move (show ρ1 53 = Value.bool _ from hR.1)) ?_
            first | refine dx_skip (i := 11) rfl (fun ρ1 w1 hj hR => (show ρ1 54 = Value.bool _ from hR.2.1)) (by decide) ?_ | refine dx_skipU (i := 11) rfl (fun ρ1 w1 hj hR => (show ρ1 54 = undef from hR.2.1)) ?_ | refine dx_take (i := 11) rfl (fun ρ1 w1 hj hR => (show ρ1 54 = Value.bool _ from hR.2.1)) (fun ρ1 w1 hj hR => x_load (vs := [_, _, _]) TIs.out (show ρ1 5 = Value.pointer _ from hR.1) (hj.hp.rd_blk_at (i := 3) (n := 3) rfl rfl) rfl) ?_
            first | refine dx_skip (i := 12) rfl (fun ρ1 w1 hj hR => (show ρ1 54 = Value.bool _ from hR.2.1)) (by decide) ?_ | refine dx_skipU (i := 12) rfl (fun ρ1 w1 hj hR => (show ρ1 54 = undef from hR.2.1)) ?_ | refine dx_take (i := 12) rfl (fun ρ1 w1 hj hR => (show ρ1 54 = Value.bool _ from hR.2.1)) (fun ρ1 w1 hj hR => x_load (vs := [_, _, _]) TIs.out (show ρ1 6 = Value.pointer _ from hR.1) (hj.hp.rd_blk_at (i := 2) (n := 3) rfl rfl) rfl) ?_
            first | refine dx_skip (i := 13) rfl (fun ρ1 w1 hj hR => (show ρ1 54 = Value.bool _ from hR.2.2.1)) (by decide) ?_ | refine dx_skipU (i := 13) rfl (fun ρ1 w1 hj hR => (show ρ1 54 = undef from hR.2.2.1)) ?_ | refine dx_take (i := 13) rfl (fun ρ1 w1 hj hR => (show ρ1 54 = Value.bool _ from hR.2.2.1)) (fun ρ1 w1 hj hR => x_eqN_t (show ρ1 55 = Value.agg (List.toArray _) from hR.1) (show ρ1 56 = Value.agg (List.toArray _) from hR.2.1) (by first | assumption | rfl)) ?_ | refine dx_take (i := 13) rfl (fun ρ1 w1 hj hR => (show ρ1 54 = Value.bool _ from hR.2.2.1)) (fun ρ1 w1 hj hR => x_eqN_f (show ρ1 55 = Value.agg (List.toArray _) from hR.1) (show ρ1 56 = Value.agg (List.toArray _) from hR.2.1) (by assumption)) ?_
            first | refine dx_skip (i := 14) rfl (fun ρ1 w1 hj hR => (show ρ1 54 = Value.bool _ from hR.2.1)) (by decide) ?_ | refine dx_skipU (i := 14) rfl (fun ρ1 w1 hj hR => (show ρ1 54 = undef from hR.2.1)) ?_ | refine dx_take (i := 14) rfl (fun ρ1 w1 hj hR => (show ρ1 54 = Value.bool _ from hR.2.1)) (fun ρ1 w1 hj hR => x_move (show ρ1 8 = Value.bool _ from hR.1)) ?_
            first | refine dx_skip (i := 15) rfl (fun ρ1 w1 hj hR => (show ρ1 54 = Value.bool _ from hR.2.2.1)) (by decide) ?_ | refine dx_skipU (i := 15) rfl (fun ρ1 w1 hj hR => (show ρ1 54 = undef from hR.2.2.1)) ?_ | refine dx_take (i := 15) rfl (fun ρ1 w1 hj hR => (show ρ1 54 = Value.bool _ from hR.2.2.1)) (fun ρ1 w1 hj hR => x_neb_f UIs.out (show ρ1 57 = Value.bool _ from hR.1) (show ρ1 58 = Value.bool _ from hR.2.1) (by first | rfl | assumption)) ?_ | refine dx_take (i := 15) rfl (fun ρ1 w1 hj hR => (show ρ1 54 = Value.bool _ from hR.2.2.1)) (fun ρ1 w1 hj hR => x_neb_t UIs.out (show ρ1 57 = Value.bool _ from hR.1) (show ρ1 58 = Value.bool _ from hR.2.1) (by first | assumption | decide)) ?_ | refine dx_take (i := 15) rfl (fun ρ1 w1 hj hR => (show ρ1 54 = Value.bool _ from hR.2.2.1)) (fun ρ1 w1 hj hR => x_neq_bool UIs.out (show ρ1 57 = Value.bool _ from hR.1) (show ρ1 58 = Value.bool _ from hR.2.1)) ?_
            first | refine dx_val (i := 16) (fun ρ1 w1 hj hR => x_pick_t (show ρ1 54 = Value.bool _ from hR.1) rfl) ?_ | refine dx_val (i := 16) (fun ρ1 w1 hj hR => x_pick_f (show ρ1 54 = Value.bool _ from hR.1) (show ρ1 59 = Value.bool _ from hR.2.1)) ?_
            refine dx_val (i := 17) (fun ρ1 w1 hj hR => x_move (show ρ1 60 = Value.bool _ from hR.1)) ?_
            first | refine dx_skip (i := 18) rfl (fun ρ1 w1 hj hR => (show ρ1 61 = Value.bool _ from hR.2.1)) (by decide) ?_ | refine dx_skipU (i := 18) rfl (fun ρ1 w1 hj hR => (show ρ1 61 = undef from hR.2.1)) ?_ | refine dx_take (i := 18) rfl (fun ρ1 w1 hj hR => (show ρ1 61 = Value.bool _ from hR.2.1)) (fun ρ1 w1 hj hR => x_move (show ρ1 8 = Value.bool _ from hR.1)) ?_
            first | refine dx_skip (i := 19) rfl (fun ρ1 w1 hj hR => (show ρ1 61 = Value.bool _ from hR.2.1)) (by decide) ?_ | refine dx_skipU (i := 19) rfl (fun ρ1 w1 hj hR => (show ρ1 61 = undef from hR.2.1)) ?_ | refine dx_take (i := 19) rfl (fun ρ1 w1 hj hR => (show ρ1 61 = Value.bool _ from hR.2.1)) (fun ρ1 w1 hj hR => x_not (show ρ1 62 = Value.bool _ from hR.1)) ?_
            first | refine dx_skip (i := 20) rfl (fun ρ1 w1 hj hR => (show ρ1 61 = Value.bool _ from hR.2.1)) (by decide) ?_ | refine dx_skipU (i := 20) rfl (fun ρ1 w1 hj hR => (show ρ1 61 = undef from hR.2.1)) ?_ | refine dx_take (i := 20) rfl (fun ρ1 w1 hj hR => (show ρ1 61 = Value.bool _ from hR.2.1)) (fun ρ1 w1 hj hR => x_move (show ρ1 63 = Value.bool _ from hR.1)) ?_
            first | refine dx_skip (i := 21) rfl (fun ρ1 w1 hj hR => (show ρ1 64 = Value.bool _ from hR.2.1)) (by decide) ?_ | refine dx_skipU (i := 21) rfl (fun ρ1 w1 hj hR => (show ρ1 64 = undef from hR.2.1)) ?_ | refine dx_take (i := 21) rfl (fun ρ1 w1 hj hR => (show ρ1 64 = Value.bool _ from hR.2.1)) (fun ρ1 w1 hj hR => x_load (vs := [_, _, _]) TIs.out (show ρ1 6 = Value.pointer _ from hR.1) (hj.hp.rd_blk_at (i := 2) (n := 3) rfl rfl) rfl) ?_
            first | refine dx_skip (i := 22) rfl (fun ρ1 w1 hj hR => (show ρ1 64 = Value.bool _ from hR.2.1)) (by decide) ?_ | refine dx_skipU (i := 22) rfl (fun ρ1 w1 hj hR => (show ρ1 64 = undef from hR.2.1)) ?_ | refine dx_take (i := 22) rfl (fun ρ1 w1 hj hR => (show ρ1 64 = Value.bool _ from hR.2.1)) (fun ρ1 w1 hj hR => x_load (vs := [_, _, _]) TIs.out (show ρ1 5 = Value.pointer _ from hR.1) (hj.hp.rd_blk_at (i := 3) (n := 3) rfl rfl) rfl) ?_
            first | refine dx_skip (i := 23) rfl (fun ρ1 w1 hj hR => (show ρ1 64 = Value.bool _ from hR.2.2.1)) (by decide) ?_ | refine dx_skipU (i := 23) rfl (fun ρ1 w1 hj hR => (show ρ1 64 = undef from hR.2.2.1)) ?_
            first | refine dx_skip (i := 24) rfl (fun ρ1 w1 hj hR => (show ρ1 64 = Value.bool _ from hR.2.1)) (by decide) ?_ | refine dx_skipU (i := 24) rfl (fun ρ1 w1 hj hR => (show ρ1 64 = undef from hR.2.1)) ?_ | refine dx_take (i := 24) rfl (fun ρ1 w1 hj hR => (show ρ1 64 = Value.bool _ from hR.2.1)) (fun ρ1 w1 hj hR => x_load (vs := [_, _, _]) TIs.out (show ρ1 9 = Value.pointer _ from hR.1) (hj.hp.rd_blk_at (i := 0) (n := 3) rfl rfl) rfl) ?_
            refine dx_nil ?_
            intro f W hJ hV _
            have hb_7 := hJ.bl
            obtain ⟨v68, v67, v66, v65, v64, v63, v62, v61, v60, v59, v58, v57, v56, v55, v54, v53, v52, v51, v50, v49, v48, v47, v46, v45, v44, _⟩ := hV
            have e44 : f 0 = _ := v44
            have e45 : f 1 = _ := v45
            have e46 : f 2 = _ := v46
            have e47 : f 3 = _ := v47
            have e48 : f 4 = _ := v48
            have e49 : f 5 = _ := v49
            have e50 : f 6 = _ := v50
            have e51 : f 7 = _ := v51
            have e52 : f 8 = _ := v52
            have e53 : f 9 = _ := v53
            have e54 : f 10 = _ := v54
            have e55 : f 11 = _ := v55
            have e56 : f 12 = _ := v56
            have e57 : f 13 = _ := v57
            have e58 : f 14 = _ := v58
            have e59 : f 15 = _ := v59
            have e60 : f 16 = _ := v60
            have e61 : f 17 = _ := v61
            have e62 : f 18 = _ := v62
            have e63 : f 19 = _ := v63
            have e64 : f 20 = _ := v64
            have e65 : f 21 = _ := v65
            have e66 : f 22 = _ := v66
            have e67 : f 23 = _ := v67
            have e68 : f 24 = _ := v68
            replace hh := hJ.hp
            refine wl_cast (updL_K (eql_cons e68 (eql_cons e67 (eql_cons e66 (eql_cons e65 (eql_cons e64 (eql_cons e63 (eql_cons e62 (eql_cons e61 (eql_cons e60 (eql_cons e59 (eql_cons e58 (eql_cons e57 (eql_cons e56 (eql_cons e55 (eql_cons e54 (eql_cons e53 (eql_cons e52 (eql_cons e51 (eql_cons e50 (eql_cons e49 (eql_cons e48 (eql_cons e47 (eql_cons e46 (eql_cons e45 (eql_cons e44 eql_nil)))))))))))))))))))))))))) ?_
            dsimp only [updK]
            clear e44 e45 e46 e47 e48 e49 e50 e51 e52 e53 e54 e55 e56 e57 e58 e59 e60 e61 e62 e63 e64 e65 e66 e67 e68 hJ
            first | (refine wl_guard_skip (by decide) rfl rfl (by decide) ?_) | (refine wl_guard_take rfl rfl ?_; (first | refine s_neN_f rfl rfl (by first | assumption | rfl) (by decide) ?_ | refine s_neN_t rfl rfl (by assumption) (by decide) ?_)) | (refine wl_guard_skipV (by decide) rfl rfl ?_)
            first | (refine wl_guard_skip (by decide) rfl rfl (by decide) ?_) | (refine wl_guard_take rfl rfl ?_; (first | refine s_pick_t rfl (ev_bool rfl) (by decide) ?_ | refine s_pick_f rfl (ev_bool rfl) (by decide) ?_)) | (refine wl_guard_skipV (by decide) rfl rfl ?_)
            first | refine s_pick_t rfl (ev_bool rfl) (by decide) ?_ | refine s_pick_f rfl (ev_bool rfl) (by decide) ?_
            refine wl_end ?_
            refine wc_cond_f rfl ?_
            refine wc_skip ?_
            refine k_then ?_
            refine wc_seq ?_
            refine wc_region ?_
            refine s_load (vs := [_, _, _]) TIs.out rfl (hh.rd_blk_at (i := 3) (n := 3) rfl rfl) rfl (by decide) ?_
            refine s_build (cs := [_, _, _]) TIs.out PIs.out rfl rfl (by decide) ?_
            -- at some 74
            by_cases zF : F = 0
            · have zF' := (nR_zero_iff F).2 zF
              by_cases zC : C = 0
              · have zC' := (nR_zero_iff C).2 zC
                first | refine s_eqN_t rfl rfl (by first | assumption | rfl) (by decide) ?_ | refine s_eqN_f rfl rfl (by assumption) (by decide) ?_
                refine s_move (ev_bool rfl) (by decide) ?_
                first | (refine wl_guard_skip (by decide) rfl rfl (by decide) ?_) | (refine wl_guard_take rfl rfl ?_; (refine s_fieldAddr (off := 2) FIs.out rfl (by decide) ?_)) | (refine wl_guard_skipV (by decide) rfl rfl ?_)
                first | (refine wl_guard_skip (by decide) rfl rfl (by decide) ?_) | (refine wl_guard_take rfl rfl ?_; (refine s_load1 TIs.out rfl (hh.cell_blk (i := 3) rfl rfl) (by decide) ?_)) | (refine wl_guard_skipV (by decide) rfl rfl ?_)
                first | (refine wl_guard_skip (by decide) rfl rfl (by decide) ?_) | (refine wl_guard_take rfl rfl ?_; (refine s_move (ev_int rfl) (by decide) ?_)) | (refine wl_guard_skipV (by decide) rfl rfl ?_)
                first | (refine wl_guard_skip (by decide) rfl rfl (by decide) ?_) | (refine wl_guard_take rfl rfl ?_; (refine s_negi rfl (by omega) (by omega) (by decide) ?_)) | (refine wl_guard_skipV (by decide) rfl rfl ?_)
                first | (refine wl_guard_skip (by decide) rfl rfl (by decide) ?_) | (refine wl_guard_take rfl rfl ?_; (first | refine s_geq_t rfl rfl (by omega) (by decide) ?_ | refine s_geq_f rfl rfl (by omega) (by decide) ?_ | refine s_geq_v rfl rfl (by decide) ?_)) | (refine wl_guard_skipV (by decide) rfl rfl ?_)
                first | refine s_pick_t rfl (ev_bool rfl) (by decide) ?_ | refine s_pick_f rfl (ev_bool rfl) (by decide) ?_
                refine s_move (ev_bool rfl) (by decide) ?_
                first | (refine wl_guard_skip (by decide) rfl rfl (by decide) ?_) | (refine wl_guard_take rfl rfl ?_; (refine s_load (vs := [_, _, _]) TIs.out rfl (hh.rd_blk_at (i := 2) (n := 3) rfl rfl) rfl (by decide) ?_)) | (refine wl_guard_skipV (by decide) rfl rfl ?_)
                first | (refine wl_guard_skip (by decide) rfl rfl (by decide) ?_) | (refine wl_guard_take rfl rfl ?_; (refine s_build (cs := [_, _, _]) TIs.out PIs.out rfl rfl (by decide) ?_)) | (refine wl_guard_skipV (by decide) rfl rfl ?_)
                first | (refine wl_guard_skip (by decide) rfl rfl (by decide) ?_) | (refine wl_guard_take rfl rfl ?_; (first | refine s_eqN_t rfl rfl (by first | assumption | rfl) (by decide) ?_ | refine s_eqN_f rfl rfl (by assumption) (by decide) ?_)) | (refine wl_guard_skipV (by decide) rfl rfl ?_)
                first | (refine wl_guard_skip (by decide) rfl rfl (by decide) ?_) | (refine wl_guard_take rfl rfl ?_; (refine s_move (ev_bool rfl) (by decide) ?_)) | (refine wl_guard_skipV (by decide) rfl rfl ?_)
                first | (refine wl_guard_skip (by decide) rfl rfl (by decide) ?_) | (refine wl_guard_take rfl rfl ?_; (refine s_fieldAddr (off := 2) FIs.out rfl (by decide) ?_)) | (refine wl_guard_skipV (by decide) rfl rfl ?_)
                first | (refine wl_guard_skip (by decide) rfl rfl (by decide) ?_) | (refine wl_guard_take rfl rfl ?_; (refine s_load1 TIs.out rfl (hh.cell_blk (i := 2) rfl rfl) (by decide) ?_)) | (refine wl_guard_skipV (by decide) rfl rfl ?_)
                first | (refine wl_guard_skip (by decide) rfl rfl (by decide) ?_) | (refine wl_guard_take rfl rfl ?_; (refine s_move (ev_int rfl) (by decide) ?_)) | (refine wl_guard_skipV (by decide) rfl rfl ?_)
                first | (refine wl_guard_skip (by decide) rfl rfl (by decide) ?_) | (refine wl_guard_take rfl rfl ?_; (refine s_negi rfl (by omega) (by omega) (by decide) ?_)) | (refine wl_guard_skipV (by decide) rfl rfl ?_)
                first | (refine wl_guard_skip (by decide) rfl rfl (by decide) ?_) | (refine wl_guard_take rfl rfl ?_; (first | refine s_geq_t rfl rfl (by omega) (by decide) ?_ | refine s_geq_f rfl rfl (by omega) (by decide) ?_ | refine s_geq_v rfl rfl (by decide) ?_)) | (refine wl_guard_skipV (by decide) rfl rfl ?_)
                first | (refine wl_guard_skip (by decide) rfl rfl (by decide) ?_) | (refine wl_guard_take rfl rfl ?_; (first | refine s_pick_t rfl (ev_bool rfl) (by decide) ?_ | refine s_pick_f rfl (ev_bool rfl) (by decide) ?_)) | (refine wl_guard_skipV (by decide) rfl rfl ?_)
                first | refine s_pick_t rfl (ev_bool rfl) (by decide) ?_ | refine s_pick_f rfl (ev_bool rfl) (by decide) ?_
                refine s_move (ev_bool rfl) (by decide) ?_
                -- at guarded Op.call { callee := Callee.value (Operand.func 6), args := #[], argTypes := #[] 
                refine wl_guard_take rfl rfl ?_
                refine s_callf (awake_calls _ (hT.hp hh)) FnIs.out rfl (by decide) ?_
                rintro e_ w95 ⟨rfl, hb_⟩
                refine ⟨_, rfl, ?_⟩
                replace hh := hh.ext hb_
                first | refine s_pick_t rfl (ev_bool rfl) (by decide) ?_ | refine s_pick_f rfl (ev_bool rfl) (by decide) ?_
                refine s_assign (ev_bool rfl) (by decide) ?_
                refine wl_end ?_
                refine wc_ret ?_
                -- at ('end', 'ret')
                refine ret1 (by first | exact .inr rfl | exact .inl rfl) rfl (v_bool rfl) ?_
                exact ⟨rfl, hh.below⟩
              · have zC' : ¬ nR C = ⟨false, ByteArray.mk #[], 0⟩ := fun h => zC ((nR_zero_iff C).1 h)
                have eC := gC.resolve_left zC
                first | refine s_eqN_t rfl rfl (by first | assumption | rfl) (by decide) ?_ | refine s_eqN_f rfl rfl (by assumption) (by decide) ?_
                refine s_move (ev_bool rfl) (by decide) ?_
                first | (refine wl_guard_skip (by decide) rfl rfl (by decide) ?_) | (refine wl_guard_take rfl rfl ?_; (refine s_fieldAddr (off := 2) FIs.out rfl (by decide) ?_)) | (refine wl_guard_skipV (by decide) rfl rfl ?_)
                first | (refine wl_guard_skip (by decide) rfl rfl (by decide) ?_) | (refine wl_guard_take rfl rfl ?_; (refine s_load1 TIs.out rfl (hh.cell_blk (i := 3) rfl rfl) (by decide) ?_)) | (refine wl_guard_skipV (by decide) rfl rfl ?_)
                first | (refine wl_guard_skip (by decide) rfl rfl (by decide) ?_) | (refine wl_guard_take rfl rfl ?_; (refine s_move (ev_int rfl) (by decide) ?_)) | (refine wl_guard_skipV (by decide) rfl rfl ?_)
                first | (refine wl_guard_skip (by decide) rfl rfl (by decide) ?_) | (refine wl_guard_take rfl rfl ?_; (refine s_negi rfl (by omega) (by omega) (by decide) ?_)) | (refine wl_guard_skipV (by decide) rfl rfl ?_)
                first | (refine wl_guard_skip (by decide) rfl rfl (by decide) ?_) | (refine wl_guard_take rfl rfl ?_; (first | refine s_geq_t rfl rfl (by omega) (by decide) ?_ | refine s_geq_f rfl rfl (by omega) (by decide) ?_ | refine s_geq_v rfl rfl (by decide) ?_)) | (refine wl_guard_skipV (by decide) rfl rfl ?_)
                first | refine s_pick_t rfl (ev_bool rfl) (by decide) ?_ | refine s_pick_f rfl (ev_bool rfl) (by decide) ?_
                refine s_move (ev_bool rfl) (by decide) ?_
                first | (refine wl_guard_skip (by decide) rfl rfl (by decide) ?_) | (refine wl_guard_take rfl rfl ?_; (refine s_load (vs := [_, _, _]) TIs.out rfl (hh.rd_blk_at (i := 2) (n := 3) rfl rfl) rfl (by decide) ?_)) | (refine wl_guard_skipV (by decide) rfl rfl ?_)
                first | (refine wl_guard_skip (by decide) rfl rfl (by decide) ?_) | (refine wl_guard_take rfl rfl ?_; (refine s_build (cs := [_, _, _]) TIs.out PIs.out rfl rfl (by decide) ?_)) | (refine wl_guard_skipV (by decide) rfl rfl ?_)
                first | (refine wl_guard_skip (by decide) rfl rfl (by decide) ?_) | (refine wl_guard_take rfl rfl ?_; (first | refine s_eqN_t rfl rfl (by first | assumption | rfl) (by decide) ?_ | refine s_eqN_f rfl rfl (by assumption) (by decide) ?_)) | (refine wl_guard_skipV (by decide) rfl rfl ?_)
                first | (refine wl_guard_skip (by decide) rfl rfl (by decide) ?_) | (refine wl_guard_take rfl rfl ?_; (refine s_move (ev_bool rfl) (by decide) ?_)) | (refine wl_guard_skipV (by decide) rfl rfl ?_)
                first | (refine wl_guard_skip (by decide) rfl rfl (by decide) ?_) | (refine wl_guard_take rfl rfl ?_; (refine s_fieldAddr (off := 2) FIs.out rfl (by decide) ?_)) | (refine wl_guard_skipV (by decide) rfl rfl ?_)
                first | (refine wl_guard_skip (by decide) rfl rfl (by decide) ?_) | (refine wl_guard_take rfl rfl ?_; (refine s_load1 TIs.out rfl (hh.cell_blk (i := 2) rfl rfl) (by decide) ?_)) | (refine wl_guard_skipV (by decide) rfl rfl ?_)
                first | (refine wl_guard_skip (by decide) rfl rfl (by decide) ?_) | (refine wl_guard_take rfl rfl ?_; (refine s_move (ev_int rfl) (by decide) ?_)) | (refine wl_guard_skipV (by decide) rfl rfl ?_)
                first | (refine wl_guard_skip (by decide) rfl rfl (by decide) ?_) | (refine wl_guard_take rfl rfl ?_; (refine s_negi rfl (by omega) (by omega) (by decide) ?_)) | (refine wl_guard_skipV (by decide) rfl rfl ?_)
                first | (refine wl_guard_skip (by decide) rfl rfl (by decide) ?_) | (refine wl_guard_take rfl rfl ?_; (first | refine s_geq_t rfl rfl (by omega) (by decide) ?_ | refine s_geq_f rfl rfl (by omega) (by decide) ?_ | refine s_geq_v rfl rfl (by decide) ?_)) | (refine wl_guard_skipV (by decide) rfl rfl ?_)
                first | (refine wl_guard_skip (by decide) rfl rfl (by decide) ?_) | (refine wl_guard_take rfl rfl ?_; (first | refine s_pick_t rfl (ev_bool rfl) (by decide) ?_ | refine s_pick_f rfl (ev_bool rfl) (by decide) ?_)) | (refine wl_guard_skipV (by decide) rfl rfl ?_)
                first | refine s_pick_t rfl (ev_bool rfl) (by decide) ?_ | refine s_pick_f rfl (ev_bool rfl) (by decide) ?_
                refine s_move (ev_bool rfl) (by decide) ?_
                -- at guarded Op.call { callee := Callee.value (Operand.func 6), args := #[], argTypes := #[] 
                refine wl_guard_take rfl rfl ?_
                refine s_callf (awake_calls _ (hT.hp hh)) FnIs.out rfl (by decide) ?_
                rintro e_ w95 ⟨rfl, hb_⟩
                refine ⟨_, rfl, ?_⟩
                replace hh := hh.ext hb_
                first | refine s_pick_t rfl (ev_bool rfl) (by decide) ?_ | refine s_pick_f rfl (ev_bool rfl) (by decide) ?_
                refine s_assign (ev_bool rfl) (by decide) ?_
                refine wl_end ?_
                refine wc_ret ?_
                -- at ('end', 'ret')
                refine ret1 (by first | exact .inr rfl | exact .inl rfl) rfl (v_bool rfl) ?_
                exact ⟨rfl, hh.below⟩
            · have zF' : ¬ nR F = ⟨false, ByteArray.mk #[], 0⟩ := fun h => zF ((nR_zero_iff F).1 h)
              have eF := gF.resolve_left zF
              by_cases zC : C = 0
              · have zC' := (nR_zero_iff C).2 zC
                first | refine s_eqN_t rfl rfl (by first | assumption | rfl) (by decide) ?_ | refine s_eqN_f rfl rfl (by assumption) (by decide) ?_
                refine s_move (ev_bool rfl) (by decide) ?_
                first | (refine wl_guard_skip (by decide) rfl rfl (by decide) ?_) | (refine wl_guard_take rfl rfl ?_; (refine s_fieldAddr (off := 2) FIs.out rfl (by decide) ?_)) | (refine wl_guard_skipV (by decide) rfl rfl ?_)
                first | (refine wl_guard_skip (by decide) rfl rfl (by decide) ?_) | (refine wl_guard_take rfl rfl ?_; (refine s_load1 TIs.out rfl (hh.cell_blk (i := 3) rfl rfl) (by decide) ?_)) | (refine wl_guard_skipV (by decide) rfl rfl ?_)
                first | (refine wl_guard_skip (by decide) rfl rfl (by decide) ?_) | (refine wl_guard_take rfl rfl ?_; (refine s_move (ev_int rfl) (by decide) ?_)) | (refine wl_guard_skipV (by decide) rfl rfl ?_)
                first | (refine wl_guard_skip (by decide) rfl rfl (by decide) ?_) | (refine wl_guard_take rfl rfl ?_; (refine s_negi rfl (by omega) (by omega) (by decide) ?_)) | (refine wl_guard_skipV (by decide) rfl rfl ?_)
                first | (refine wl_guard_skip (by decide) rfl rfl (by decide) ?_) | (refine wl_guard_take rfl rfl ?_; (first | refine s_geq_t rfl rfl (by omega) (by decide) ?_ | refine s_geq_f rfl rfl (by omega) (by decide) ?_ | refine s_geq_v rfl rfl (by decide) ?_)) | (refine wl_guard_skipV (by decide) rfl rfl ?_)
                first | refine s_pick_t rfl (ev_bool rfl) (by decide) ?_ | refine s_pick_f rfl (ev_bool rfl) (by decide) ?_
                refine s_move (ev_bool rfl) (by decide) ?_
                first | (refine wl_guard_skip (by decide) rfl rfl (by decide) ?_) | (refine wl_guard_take rfl rfl ?_; (refine s_load (vs := [_, _, _]) TIs.out rfl (hh.rd_blk_at (i := 2) (n := 3) rfl rfl) rfl (by decide) ?_)) | (refine wl_guard_skipV (by decide) rfl rfl ?_)
                first | (refine wl_guard_skip (by decide) rfl rfl (by decide) ?_) | (refine wl_guard_take rfl rfl ?_; (refine s_build (cs := [_, _, _]) TIs.out PIs.out rfl rfl (by decide) ?_)) | (refine wl_guard_skipV (by decide) rfl rfl ?_)
                first | (refine wl_guard_skip (by decide) rfl rfl (by decide) ?_) | (refine wl_guard_take rfl rfl ?_; (first | refine s_eqN_t rfl rfl (by first | assumption | rfl) (by decide) ?_ | refine s_eqN_f rfl rfl (by assumption) (by decide) ?_)) | (refine wl_guard_skipV (by decide) rfl rfl ?_)
                first | (refine wl_guard_skip (by decide) rfl rfl (by decide) ?_) | (refine wl_guard_take rfl rfl ?_; (refine s_move (ev_bool rfl) (by decide) ?_)) | (refine wl_guard_skipV (by decide) rfl rfl ?_)
                first | (refine wl_guard_skip (by decide) rfl rfl (by decide) ?_) | (refine wl_guard_take rfl rfl ?_; (refine s_fieldAddr (off := 2) FIs.out rfl (by decide) ?_)) | (refine wl_guard_skipV (by decide) rfl rfl ?_)
                first | (refine wl_guard_skip (by decide) rfl rfl (by decide) ?_) | (refine wl_guard_take rfl rfl ?_; (refine s_load1 TIs.out rfl (hh.cell_blk (i := 2) rfl rfl) (by decide) ?_)) | (refine wl_guard_skipV (by decide) rfl rfl ?_)
                first | (refine wl_guard_skip (by decide) rfl rfl (by decide) ?_) | (refine wl_guard_take rfl rfl ?_; (refine s_move (ev_int rfl) (by decide) ?_)) | (refine wl_guard_skipV (by decide) rfl rfl ?_)
                first | (refine wl_guard_skip (by decide) rfl rfl (by decide) ?_) | (refine wl_guard_take rfl rfl ?_; (refine s_negi rfl (by omega) (by omega) (by decide) ?_)) | (refine wl_guard_skipV (by decide) rfl rfl ?_)
                first | (refine wl_guard_skip (by decide) rfl rfl (by decide) ?_) | (refine wl_guard_take rfl rfl ?_; (first | refine s_geq_t rfl rfl (by omega) (by decide) ?_ | refine s_geq_f rfl rfl (by omega) (by decide) ?_ | refine s_geq_v rfl rfl (by decide) ?_)) | (refine wl_guard_skipV (by decide) rfl rfl ?_)
                first | (refine wl_guard_skip (by decide) rfl rfl (by decide) ?_) | (refine wl_guard_take rfl rfl ?_; (first | refine s_pick_t rfl (ev_bool rfl) (by decide) ?_ | refine s_pick_f rfl (ev_bool rfl) (by decide) ?_)) | (refine wl_guard_skipV (by decide) rfl rfl ?_)
                first | refine s_pick_t rfl (ev_bool rfl) (by decide) ?_ | refine s_pick_f rfl (ev_bool rfl) (by decide) ?_
                refine s_move (ev_bool rfl) (by decide) ?_
                -- at guarded Op.call { callee := Callee.value (Operand.func 6), args := #[], argTypes := #[] 
                refine wl_guard_take rfl rfl ?_
                refine s_callf (awake_calls _ (hT.hp hh)) FnIs.out rfl (by decide) ?_
                rintro e_ w95 ⟨rfl, hb_⟩
                refine ⟨_, rfl, ?_⟩
                replace hh := hh.ext hb_
                first | refine s_pick_t rfl (ev_bool rfl) (by decide) ?_ | refine s_pick_f rfl (ev_bool rfl) (by decide) ?_
                refine s_assign (ev_bool rfl) (by decide) ?_
                refine wl_end ?_
                refine wc_ret ?_
                -- at ('end', 'ret')
                refine ret1 (by first | exact .inr rfl | exact .inl rfl) rfl (v_bool rfl) ?_
                exact ⟨rfl, hh.below⟩
              · have zC' : ¬ nR C = ⟨false, ByteArray.mk #[], 0⟩ := fun h => zC ((nR_zero_iff C).1 h)
                have eC := gC.resolve_left zC
                first | refine s_eqN_t rfl rfl (by first | assumption | rfl) (by decide) ?_ | refine s_eqN_f rfl rfl (by assumption) (by decide) ?_
                refine s_move (ev_bool rfl) (by decide) ?_
                first | (refine wl_guard_skip (by decide) rfl rfl (by decide) ?_) | (refine wl_guard_take rfl rfl ?_; (refine s_fieldAddr (off := 2) FIs.out rfl (by decide) ?_)) | (refine wl_guard_skipV (by decide) rfl rfl ?_)
                first | (refine wl_guard_skip (by decide) rfl rfl (by decide) ?_) | (refine wl_guard_take rfl rfl ?_; (refine s_load1 TIs.out rfl (hh.cell_blk (i := 3) rfl rfl) (by decide) ?_)) | (refine wl_guard_skipV (by decide) rfl rfl ?_)
                first | (refine wl_guard_skip (by decide) rfl rfl (by decide) ?_) | (refine wl_guard_take rfl rfl ?_; (refine s_move (ev_int rfl) (by decide) ?_)) | (refine wl_guard_skipV (by decide) rfl rfl ?_)
                first | (refine wl_guard_skip (by decide) rfl rfl (by decide) ?_) | (refine wl_guard_take rfl rfl ?_; (refine s_negi rfl (by omega) (by omega) (by decide) ?_)) | (refine wl_guard_skipV (by decide) rfl rfl ?_)
                first | (refine wl_guard_skip (by decide) rfl rfl (by decide) ?_) | (refine wl_guard_take rfl rfl ?_; (first | refine s_geq_t rfl rfl (by omega) (by decide) ?_ | refine s_geq_f rfl rfl (by omega) (by decide) ?_ | refine s_geq_v rfl rfl (by decide) ?_)) | (refine wl_guard_skipV (by decide) rfl rfl ?_)
                first | refine s_pick_t rfl (ev_bool rfl) (by decide) ?_ | refine s_pick_f rfl (ev_bool rfl) (by decide) ?_
                refine s_move (ev_bool rfl) (by decide) ?_
                first | (refine wl_guard_skip (by decide) rfl rfl (by decide) ?_) | (refine wl_guard_take rfl rfl ?_; (refine s_load (vs := [_, _, _]) TIs.out rfl (hh.rd_blk_at (i := 2) (n := 3) rfl rfl) rfl (by decide) ?_)) | (refine wl_guard_skipV (by decide) rfl rfl ?_)
                first | (refine wl_guard_skip (by decide) rfl rfl (by decide) ?_) | (refine wl_guard_take rfl rfl ?_; (refine s_build (cs := [_, _, _]) TIs.out PIs.out rfl rfl (by decide) ?_)) | (refine wl_guard_skipV (by decide) rfl rfl ?_)
                first | (refine wl_guard_skip (by decide) rfl rfl (by decide) ?_) | (refine wl_guard_take rfl rfl ?_; (first | refine s_eqN_t rfl rfl (by first | assumption | rfl) (by decide) ?_ | refine s_eqN_f rfl rfl (by assumption) (by decide) ?_)) | (refine wl_guard_skipV (by decide) rfl rfl ?_)
                first | (refine wl_guard_skip (by decide) rfl rfl (by decide) ?_) | (refine wl_guard_take rfl rfl ?_; (refine s_move (ev_bool rfl) (by decide) ?_)) | (refine wl_guard_skipV (by decide) rfl rfl ?_)
                first | (refine wl_guard_skip (by decide) rfl rfl (by decide) ?_) | (refine wl_guard_take rfl rfl ?_; (refine s_fieldAddr (off := 2) FIs.out rfl (by decide) ?_)) | (refine wl_guard_skipV (by decide) rfl rfl ?_)
                first | (refine wl_guard_skip (by decide) rfl rfl (by decide) ?_) | (refine wl_guard_take rfl rfl ?_; (refine s_load1 TIs.out rfl (hh.cell_blk (i := 2) rfl rfl) (by decide) ?_)) | (refine wl_guard_skipV (by decide) rfl rfl ?_)
                first | (refine wl_guard_skip (by decide) rfl rfl (by decide) ?_) | (refine wl_guard_take rfl rfl ?_; (refine s_move (ev_int rfl) (by decide) ?_)) | (refine wl_guard_skipV (by decide) rfl rfl ?_)
                first | (refine wl_guard_skip (by decide) rfl rfl (by decide) ?_) | (refine wl_guard_take rfl rfl ?_; (refine s_negi rfl (by omega) (by omega) (by decide) ?_)) | (refine wl_guard_skipV (by decide) rfl rfl ?_)
                first | (refine wl_guard_skip (by decide) rfl rfl (by decide) ?_) | (refine wl_guard_take rfl rfl ?_; (first | refine s_geq_t rfl rfl (by omega) (by decide) ?_ | refine s_geq_f rfl rfl (by omega) (by decide) ?_ | refine s_geq_v rfl rfl (by decide) ?_)) | (refine wl_guard_skipV (by decide) rfl rfl ?_)
                first | (refine wl_guard_skip (by decide) rfl rfl (by decide) ?_) | (refine wl_guard_take rfl rfl ?_; (first | refine s_pick_t rfl (ev_bool rfl) (by decide) ?_ | refine s_pick_f rfl (ev_bool rfl) (by decide) ?_)) | (refine wl_guard_skipV (by decide) rfl rfl ?_)
                first | refine s_pick_t rfl (ev_bool rfl) (by decide) ?_ | refine s_pick_f rfl (ev_bool rfl) (by decide) ?_
                refine s_move (ev_bool rfl) (by decide) ?_
                -- at guarded Op.call { callee := Callee.value (Operand.func 6), args := #[], argTypes := #[] 
                refine wl_guard_take rfl rfl ?_
                refine s_callf (awake_calls _ (hT.hp hh)) FnIs.out rfl (by decide) ?_
                rintro e_ w95 ⟨rfl, hb_⟩
                refine ⟨_, rfl, ?_⟩
                replace hh := hh.ext hb_
                first | refine s_pick_t rfl (ev_bool rfl) (by decide) ?_ | refine s_pick_f rfl (ev_bool rfl) (by decide) ?_
                refine s_assign (ev_bool rfl) (by decide) ?_
                refine wl_end ?_
                refine wc_ret ?_
                -- at ('end', 'ret')
                refine ret1 (by first | exact .inr rfl | exact .inl rfl) rfl (v_bool rfl) ?_
                exact ⟨rfl, hh.below⟩
          · have hz : ¬ nR a.d = ⟨false, ByteArray.mk #[], 0⟩ := fun h => z ((nR_zero_iff a.d).1 h)
            have he := hg.resolve_left z
            refine calls_vc (N := 97) (l := [.agg #[.bool a.neg, .string a.mag, .int .i64 a.e], .int .i64 p]) Tryd.func4 rfl rfl (by simp) ?_
            refine wc_seq ?_
            refine wc_region ?_
            refine wl_box hh (cs := [_, _, _]) rfl rfl (by decide) ?_
            intro b2 w2 hh
            refine s_assign (ev_bool rfl) (by decide) ?_
            refine wl_end ?_
            refine wc_seq ?_
            refine wc_seq ?_
            refine wc_region ?_
            refine s_load (vs := [_, _, _]) TIs.out rfl (hh.rd_blk_at (i := 0) (n := 3) rfl rfl) rfl (by decide) ?_
            refine wl_buildSlice hh (cs := [_, _, _]) UIs.out TIs.out (evp_cons (ev_agg rfl) evp_nil) rfl rfl (by decide) (by decide) (by decide) rfl (by decide) ?_
            intro b11 w11 hh
            -- at some 12 := Op.call { callee := Callee.value (Operand.func 5), args := #[Operand.const (Value.int IntK
            refine s_callf (long_calls 150 500 _ 1 _ [a] _ (hh.sl_row (i := 0) rfl) (by omega) (by omega) (by omega)) FnIs.out rfl (by decide) ?_
            rintro e_ w12 ⟨rfl, hb_⟩
            refine ⟨_, rfl, ?_⟩
            replace hh := hh.ext hb_
            rw [hlg]
            refine s_move (ev_bool rfl) (by decide) ?_
            first | (refine wl_guard_skip (by decide) rfl rfl (by decide) ?_) | (refine wl_guard_take rfl rfl ?_; (refine s_move (ev_int rfl) (by decide) ?_)) | (refine wl_guard_skipV (by decide) rfl rfl ?_)
            first | (refine wl_guard_skip (by decide) rfl rfl (by decide) ?_) | (refine wl_guard_take rfl rfl ?_; (first | refine s_lss_t rfl rfl (by omega) (by decide) ?_ | refine s_lss_f rfl rfl (by omega) (by decide) ?_ | refine s_lss_v rfl rfl (by decide) ?_)) | (refine wl_guard_skipV (by decide) rfl rfl ?_)
            first | refine s_pick_t rfl (ev_bool rfl) (by decide) ?_ | refine s_pick_f rfl (ev_bool rfl) (by decide) ?_
            refine s_move (ev_bool rfl) (by decide) ?_
            first | (refine wl_guard_skip (by decide) rfl rfl (by decide) ?_) | (refine wl_guard_take rfl rfl ?_; (refine s_move (ev_int rfl) (by decide) ?_)) | (refine wl_guard_skipV (by decide) rfl rfl ?_)
            first | (refine wl_guard_skip (by decide) rfl rfl (by decide) ?_) | (refine wl_guard_take rfl rfl ?_; (first | refine s_gtr_t rfl rfl (by omega) (by decide) ?_ | refine s_gtr_f rfl rfl (by omega) (by decide) ?_ | refine s_gtr_v rfl rfl (by decide) ?_)) | (refine wl_guard_skipV (by decide) rfl rfl ?_)
            first | refine s_pick_t rfl (ev_bool rfl) (by decide) ?_ | refine s_pick_f rfl (ev_bool rfl) (by decide) ?_
            refine wl_end ?_
            refine wc_cond_f rfl ?_
            refine wc_skip ?_
            refine k_then ?_
            refine wc_seq ?_
            -- at the drawn region 3
            refine wc_drawn2 [6, 7] [] [0, 0, 3, 0, 0, 31, 0, 0, 255, 511] 8 [[(2, none)], [(1, none)], [(22, some 0), (23, some 1)], [(2, none)], [(1, none)], [(25, some 3), (26, some 4)], [], []] [(7, 6), (6, 5), (5, 27), (4, 26), (3, 25), (2, 24), (1, 23), (0, 22)] hh mixed (by kernel_rfl) (alok_cons rfl TIs.out (alok_cons rfl TIs.out alok_nil)) rfl (by repeat (first | exact np_ret | refine np_then ?_ | refine np_blk ?_)) ?_
            refine dx_val (i := 0) (fun ρ1 w1 hj hR => x_load (vs := [_, _, _]) TIs.out (show ρ1 2 = Value.pointer _ from hR.1) (hj.hp.rd_blk_at (i := 1) (n := 3) rfl rfl) rfl) ?_
            refine dx_val (i := 1) (fun ρ1 w1 hj hR => x_move (show ρ1 1 = Value.int _ _ from hR.1)) ?_
            refine dx_call (i := 2) (fun ρ1 w1 hj hR => run_callf FnIs.out (evs_cons (show ρ1 22 = Value.agg (List.toArray _) from hR.1) (evs_cons (show ρ1 23 = Value.int _ _ from hR.2.1) evs_nil))) (fun w1 hj => hfl _ (hT.hp hj.hp)) ?_
            refine dx_val (i := 3) (fun ρ1 w1 hj hR => x_load (vs := [_, _, _]) TIs.out (show ρ1 2 = Value.pointer _ from hR.1) (hj.hp.rd_blk_at (i := 1) (n := 3) rfl rfl) rfl) ?_
            refine dx_val (i := 4) (fun ρ1 w1 hj hR => x_move (show ρ1 1 = Value.int _ _ from hR.1)) ?_
            refine dx_call (i := 5) (fun ρ1 w1 hj hR => run_callf FnIs.out (evs_cons (show ρ1 25 = Value.agg (List.toArray _) from hR.1) (evs_cons (show ρ1 26 = Value.int _ _ from hR.2.1) evs_nil))) (fun w1 hj => hce _ (hT.hp hj.hp)) ?_
            refine dx_gen (i := 6) (NewVar _ 25 _) NewVar.ext (fun ρ1 w1 hj hR => og_alloc TIs.out hj.bl (fun v w2 h hb => ⟨hb, h⟩)) ?_
            refine dx_gen (i := 7) (NewVar _ 25 _) NewVar.ext (fun ρ1 w1 hj hR => og_alloc TIs.out hj.bl (fun v w2 h hb => ⟨hb, h⟩)) ?_
            refine dx_nil ?_
            intro f W hJ hV hD
            have hb_3 := hJ.bl
            obtain ⟨v6, v5, v27, v26, v25, v24, v23, v22, _⟩ := hV
            have e22 : f 0 = _ := v22
            have e23 : f 1 = _ := v23
            have e24 : f 2 = _ := v24
            have e25 : f 3 = _ := v25
            have e26 : f 4 = _ := v26
            have e27 : f 5 = _ := v27
            obtain ⟨b5, e5, hl5, hc5⟩ : NewVar _ _ _ (f 6) W := v5
            obtain ⟨b6, e6, hl6, hc6⟩ : NewVar _ _ _ (f 7) W := v6
            have hne := ptr_ne hD (i := 6) (j := 7) (by decide) (by decide) (by decide) e5 e6
            replace hh := hJ.newVar2 hh hl5 hc5 hl6 hc6 hne
            clear hD hne
            refine wl_cast (updL_K (eql_cons e6 (eql_cons e5 (eql_cons e27 (eql_cons e26 (eql_cons e25 (eql_cons e24 (eql_cons e23 (eql_cons e22 eql_nil))))))))) ?_
            dsimp only [updK]
            clear e22 e23 e24 e25 e26 e27 e5 e6 hJ
            refine wl_store hh (i := 1) (vs := [_, _, _]) rfl rfl rfl rfl TIs.out rfl (by simp) rfl ?_
            intro ws hh
            replace hh : Hp _ (_ :: .blk _ _ [_, _, _] _ :: _) _ := hh
            refine wl_store hh (i := 0) (vs := [_, _, _]) rfl rfl rfl rfl TIs.out rfl (by simp) rfl ?_
            intro ws hh
            replace hh : Hp _ (.blk _ _ [_, _, _] _ :: _) _ := hh
            refine wl_end ?_
            refine wc_seq ?_
            refine wc_region ?_
            refine s_load (vs := [_, _, _]) TIs.out rfl (hh.rd_blk_at (i := 3) (n := 3) rfl rfl) rfl (by decide) ?_
            -- at some 29 := Op.call { callee := Callee.value (Operand.func 11), args := #[Operand.tmp 28], argTypes :=
            refine s_callf (dForm_calls a _ (hT.hp hh) (by omega) (by omega) (by omega)) FnIs.out rfl (by decide) ?_
            rintro e_ w29 ⟨rfl, hb_⟩
            refine ⟨_, rfl, ?_⟩
            replace hh := hh.ext hb_
            refine wl_alloc hh TIs.out (by decide) ?_
            intro b7 w7 hh
            refine wl_store hh (i := 0) (vs := [_, _, _]) rfl rfl rfl rfl TIs.out rfl (by simp) rfl ?_
            intro ws hh
            replace hh : Hp _ (.blk _ _ [_, _, _] _ :: _) _ := hh
            refine wl_end ?_
            refine wc_seq ?_
            refine wc_region ?_
            refine s_load (vs := [_, _, _]) TIs.out rfl (hh.rd_blk_at (i := 0) (n := 3) rfl rfl) rfl (by decide) ?_
            refine s_build (cs := [_, _, _]) TIs.out PIs.out rfl rfl (by decide) ?_
            first | refine s_eqN_t rfl rfl (by first | assumption | rfl) (by decide) ?_ | refine s_eqN_f rfl rfl (by assumption) (by decide) ?_
            refine s_move (ev_bool rfl) (by decide) ?_
            first | (refine wl_guard_skip (by decide) rfl rfl (by decide) ?_) | (refine wl_guard_take rfl rfl ?_; (refine s_fieldAddr (off := 2) FIs.out rfl (by decide) ?_)) | (refine wl_guard_skipV (by decide) rfl rfl ?_)
            first | (refine wl_guard_skip (by decide) rfl rfl (by decide) ?_) | (refine wl_guard_take rfl rfl ?_; (refine s_load1 TIs.out rfl (hh.cell_blk (i := 0) rfl rfl) (by decide) ?_)) | (refine wl_guard_skipV (by decide) rfl rfl ?_)
            first | (refine wl_guard_skip (by decide) rfl rfl (by decide) ?_) | (refine wl_guard_take rfl rfl ?_; (refine s_move (ev_int rfl) (by decide) ?_)) | (refine wl_guard_skipV (by decide) rfl rfl ?_)
            first | (refine wl_guard_skip (by decide) rfl rfl (by decide) ?_) | (refine wl_guard_take rfl rfl ?_; (refine s_negi rfl (by omega) (by omega) (by decide) ?_)) | (refine wl_guard_skipV (by decide) rfl rfl ?_)
            first | (refine wl_guard_skip (by decide) rfl rfl (by decide) ?_) | (refine wl_guard_take rfl rfl ?_; (first | refine s_geq_t rfl rfl (by omega) (by decide) ?_ | refine s_geq_f rfl rfl (by omega) (by decide) ?_ | refine s_geq_v rfl rfl (by decide) ?_)) | (refine wl_guard_skipV (by decide) rfl rfl ?_)
            first | refine s_pick_t rfl (ev_bool rfl) (by decide) ?_ | refine s_pick_f rfl (ev_bool rfl) (by decide) ?_
            refine s_assign (ev_bool rfl) (by decide) ?_
            refine wl_end ?_
            refine wc_seq ?_
            refine wc_region ?_
            -- at some 40 := Op.call { callee := Callee.value (Operand.func 15), args := #[Operand.const (Value.int Int
            refine s_callf (dOf_calls 1 _ (hT.hp hh) (by omega) (by omega)) FnIs.out rfl (by decide) ?_
            rintro e_ w40 ⟨rfl, hb_⟩
            refine ⟨_, rfl, ?_⟩
            replace hh := hh.ext hb_
            refine s_move (ev_int rfl) (by decide) ?_
            refine s_negi rfl (by omega) (by omega) (by decide) ?_
            -- at some 43 := Op.call { callee := Callee.value (Operand.func 9), args := #[Operand.tmp 40, Operand.tmp 4
            refine s_callf (hsh _ (hT.hp hh)) FnIs.out rfl (by decide) ?_
            rintro e_ w43 ⟨rfl, hb_⟩
            refine ⟨_, rfl, ?_⟩
            replace hh := hh.ext hb_
            refine wl_alloc hh TIs.out (by decide) ?_
            intro b9 w9 hh
            refine wl_store hh (i := 0) (vs := [_, _, _]) rfl rfl rfl rfl TIs.out rfl (by simp) rfl ?_
            intro ws hh
            replace hh : Hp _ (.blk _ _ [_, _, _] _ :: _) _ := hh
            refine wl_end ?_
            refine wc_seq ?_
            refine wc_seq ?_
            -- at the drawn region 7
            refine wc_drawn2 [] [] [0, 0, 3, 7, 15, 31, 31, 127, 255, 511, 1023, 2047, 2047, 8191, 2047, 32767, 65535, 131071, 262143, 524287, 1048575, 2097151, 2097151, 8388607, 2097151, 33554431, 67108863, 134217727] 25 [[(5, none)], [(2, none)], [(44, some 0), (45, some 1)], [(46, some 2)], [(47, some 3)], [(2, none), (48, some 4)], [(6, none), (48, some 4)], [(49, some 5), (50, some 6), (48, some 4)], [(51, some 7), (48, some 4)], [(48, some 4), (52, some 8)], [(53, some 9)], [(5, none), (54, some 10)], [(6, none), (54, some 10)], [(55, some 11), (56, some 12), (54, some 10)], [(8, none), (54, some 10)], [(57, some 13), (58, some 14), (54, some 10)], [(54, some 10), (59, some 15)], [(60, some 16)], [(8, none), (61, some 17)], [(62, some 18), (61, some 17)], [(63, some 19), (61, some 17)], [(6, none), (64, some 20)], [(5, none), (64, some 20)], [(65, some 21), (66, some 22), (64, some 20)], [(9, none), (64, some 20)]] [(24, 68), (23, 67), (22, 66), (21, 65), (20, 64), (19, 63), (18, 62), (17, 61), (16, 60), (15, 59), (14, 58), (13, 57), (12, 56), (11, 55), (10, 54), (9, 53), (8, 52), (7, 51), (6, 50), (5, 49), (4, 48), (3, 47), (2, 46), (1, 45), (0, 44)] hh mixed (by kernel_rfl) alok_nil rfl (by repeat (first | exact np_ret | refine np_then ?_ | refine np_blk ?_)) ?_
            refine dx_val (i := 0) (fun ρ1 w1 hj hR => x_load (vs := [_, _, _]) TIs.out (show ρ1 5 = Value.pointer _ from hR.1) (hj.hp.rd_blk_at (i := 3) (n := 3) rfl rfl) rfl) ?_
            refine dx_val (i := 1) (fun ρ1 w1 hj hR => x_load (vs := [_, _, _]) TIs.out (show ρ1 2 = Value.pointer _ from hR.1) (hj.hp.rd_blk_at (i := 5) (n := 3) rfl rfl) rfl) ?_
            refine dx_call (i := 2) (fun ρ1 w1 hj hR => run_callf FnIs.out (evs_cons (show ρ1 44 = Value.agg (List.toArray _) from hR.1) (evs_cons (show ρ1 45 = Value.agg (List.toArray _) from hR.2.1) evs_nil))) (fun w1 hj => hc1 _ (hT.hp hj.hp)) ?_
            first | refine dx_val (i := 3) (fun ρ1 w1 hj hR => x_gtr_t (show ρ1 46 = Value.int _ _ from hR.1) rfl (by omega)) ?_ | refine dx_val (i := 3) (fun ρ1 w1 hj hR => x_gtr_f (show ρ1 46 = Value.int _ _ from hR.1) rfl (by omega)) ?_ | refine dx_val (i := 3) (fun ρ1 w1 hj hR => x_gtr_v (show ρ1 46 = Value.int _ _ from hR.1) rfl) ?_
            refine dx_val (i := 4) (fun ρ1 w1 hj hR => x_move (show ρ1 47 = Value.bool _ from hR.1)) ?_
            first | refine dx_skip (i := 5) rfl (fun ρ1 w1 hj hR => (show ρ1 48 = Value.bool _ from hR.2.1)) (by decide) ?_ | refine dx_skipU (i := 5) rfl (fun ρ1 w1 hj hR => (show ρ1 48 = undef from hR.2.1)) ?_ | refine dx_take (i := 5) rfl (fun ρ1 w1 hj hR => (show ρ1 48 = Value.bool _ from hR.2.1)) (fun ρ1 w1 hj hR => x_load (vs := [_, _, _]) TIs.out (show ρ1 2 = Value.pointer _ from hR.1) (hj.hp.rd_blk_at (i := 5) (n := 3) rfl rfl) rfl) ?_
            first | refine dx_skip (i := 6) rfl (fun ρ1 w1 hj hR => (show ρ1 48 = Value.bool _ from hR.2.1)) (by decide) ?_ | refine dx_skipU (i := 6) rfl (fun ρ1 w1 hj hR => (show ρ1 48 = undef from hR.2.1)) ?_ | refine dx_take (i := 6) rfl (fun ρ1 w1 hj hR => (show ρ1 48 = Value.bool _ from hR.2.1)) (fun ρ1 w1 hj hR => x_load (vs := [_, _, _]) TIs.out (show ρ1 6 = Value.pointer _ from hR.1) (hj.hp.rd_blk_at (i := 2) (n := 3) rfl rfl) rfl) ?_
            refine dx_take_call (i := 7) rfl (fun ρ1 w1 hj hR => (show ρ1 48 = Value.bool _ from hR.2.2.1)) (fun ρ1 w1 hj hR => run_callf FnIs.out (evs_cons (show ρ1 49 = Value.agg (List.toArray _) from hR.1) (evs_cons (show ρ1 50 = Value.agg (List.toArray _) from hR.2.1) evs_nil))) (fun w1 hj => hc2 _ (hT.hp hj.hp)) ?_
            first | refine dx_skip (i := 8) rfl (fun ρ1 w1 hj hR => (show ρ1 48 = Value.bool _ from hR.2.1)) (by decide) ?_ | refine dx_skipU (i := 8) rfl (fun ρ1 w1 hj hR => (show ρ1 48 = undef from hR.2.1)) ?_ | refine dx_take (i := 8) rfl (fun ρ1 w1 hj hR => (show ρ1 48 = Value.bool _ from hR.2.1)) (fun ρ1 w1 hj hR => x_gtr_t (show ρ1 51 = Value.int _ _ from hR.1) rfl (by omega)) ?_ | refine dx_take (i := 8) rfl (fun ρ1 w1 hj hR => (show ρ1 48 = Value.bool _ from hR.2.1)) (fun ρ1 w1 hj hR => x_gtr_f (show ρ1 51 = Value.int _ _ from hR.1) rfl (by omega)) ?_ | refine dx_take (i := 8) rfl (fun ρ1 w1 hj hR => (show ρ1 48 = Value.bool _ from hR.2.1)) (fun ρ1 w1 hj hR => x_gtr_v (show ρ1 51 = Value.int _ _ from hR.1) rfl) ?_
            first | refine dx_val (i := 9) (fun ρ1 w1 hj hR => x_pick_t (show ρ1 48 = Value.bool _ from hR.1) rfl) ?_ | refine dx_val (i := 9) (fun ρ1 w1 hj hR => x_pick_f (show ρ1 48 = Value.bool _ from hR.1) (show ρ1 52 = Value.bool _ from hR.2.1)) ?_
            refine dx_val (i := 10) (fun ρ1 w1 hj hR => x_move (show ρ1 53 = Value.bool _ from hR.1)) ?_
            first | refine dx_skip (i := 11) rfl (fun ρ1 w1 hj hR => (show ρ1 54 = Value.bool _ from hR.2.1)) (by decide) ?_ | refine dx_skipU (i := 11) rfl (fun ρ1 w1 hj hR => (show ρ1 54 = undef from hR.2.1)) ?_ | refine dx_take (i := 11) rfl (fun ρ1 w1 hj hR => (show ρ1 54 = Value.bool _ from hR.2.1)) (fun ρ1 w1 hj hR => x_load (vs := [_, _, _]) TIs.out (show ρ1 5 = Value.pointer _ from hR.1) (hj.hp.rd_blk_at (i := 3) (n := 3) rfl rfl) rfl) ?_
            first | refine dx_skip (i := 12) rfl (fun ρ1 w1 hj hR => (show ρ1 54 = Value.bool _ from hR.2.1)) (by decide) ?_ | refine dx_skipU (i := 12) rfl (fun ρ1 w1 hj hR => (show ρ1 54 = undef from hR.2.1)) ?_ | refine dx_take (i := 12) rfl (fun ρ1 w1 hj hR => (show ρ1 54 = Value.bool _ from hR.2.1)) (fun ρ1 w1 hj hR => x_load (vs := [_, _, _]) TIs.out (show ρ1 6 = Value.pointer _ from hR.1) (hj.hp.rd_blk_at (i := 2) (n := 3) rfl rfl) rfl) ?_
            first | refine dx_skip (i := 13) rfl (fun ρ1 w1 hj hR => (show ρ1 54 = Value.bool _ from hR.2.2.1)) (by decide) ?_ | refine dx_skipU (i := 13) rfl (fun ρ1 w1 hj hR => (show ρ1 54 = undef from hR.2.2.1)) ?_ | refine dx_take (i := 13) rfl (fun ρ1 w1 hj hR => (show ρ1 54 = Value.bool _ from hR.2.2.1)) (fun ρ1 w1 hj hR => x_eqN_t (show ρ1 55 = Value.agg (List.toArray _) from hR.1) (show ρ1 56 = Value.agg (List.toArray _) from hR.2.1) (by first | assumption | rfl)) ?_ | refine dx_take (i := 13) rfl (fun ρ1 w1 hj hR => (show ρ1 54 = Value.bool _ from hR.2.2.1)) (fun ρ1 w1 hj hR => x_eqN_f (show ρ1 55 = Value.agg (List.toArray _) from hR.1) (show ρ1 56 = Value.agg (List.toArray _) from hR.2.1) (by assumption)) ?_
            first | refine dx_skip (i := 14) rfl (fun ρ1 w1 hj hR => (show ρ1 54 = Value.bool _ from hR.2.1)) (by decide) ?_ | refine dx_skipU (i := 14) rfl (fun ρ1 w1 hj hR => (show ρ1 54 = undef from hR.2.1)) ?_ | refine dx_take (i := 14) rfl (fun ρ1 w1 hj hR => (show ρ1 54 = Value.bool _ from hR.2.1)) (fun ρ1 w1 hj hR => x_move (show ρ1 8 = Value.bool _ from hR.1)) ?_
            first | refine dx_skip (i := 15) rfl (fun ρ1 w1 hj hR => (show ρ1 54 = Value.bool _ from hR.2.2.1)) (by decide) ?_ | refine dx_skipU (i := 15) rfl (fun ρ1 w1 hj hR => (show ρ1 54 = undef from hR.2.2.1)) ?_ | refine dx_take (i := 15) rfl (fun ρ1 w1 hj hR => (show ρ1 54 = Value.bool _ from hR.2.2.1)) (fun ρ1 w1 hj hR => x_neb_f UIs.out (show ρ1 57 = Value.bool _ from hR.1) (show ρ1 58 = Value.bool _ from hR.2.1) (by first | rfl | assumption)) ?_ | refine dx_take (i := 15) rfl (fun ρ1 w1 hj hR => (show ρ1 54 = Value.bool _ from hR.2.2.1)) (fun ρ1 w1 hj hR => x_neb_t UIs.out (show ρ1 57 = Value.bool _ from hR.1) (show ρ1 58 = Value.bool _ from hR.2.1) (by first | assumption | decide)) ?_ | refine dx_take (i := 15) rfl (fun ρ1 w1 hj hR => (show ρ1 54 = Value.bool _ from hR.2.2.1)) (fun ρ1 w1 hj hR => x_neq_bool UIs.out (show ρ1 57 = Value.bool _ from hR.1) (show ρ1 58 = Value.bool _ from hR.2.1)) ?_
            first | refine dx_val (i := 16) (fun ρ1 w1 hj hR => x_pick_t (show ρ1 54 = Value.bool _ from hR.1) rfl) ?_ | refine dx_val (i := 16) (fun ρ1 w1 hj hR => x_pick_f (show ρ1 54 = Value.bool _ from hR.1) (show ρ1 59 = Value.bool _ from hR.2.1)) ?_
            refine dx_val (i := 17) (fun ρ1 w1 hj hR => x_move (show ρ1 60 = Value.bool _ from hR.1)) ?_
            first | refine dx_skip (i := 18) rfl (fun ρ1 w1 hj hR => (show ρ1 61 = Value.bool _ from hR.2.1)) (by decide) ?_ | refine dx_skipU (i := 18) rfl (fun ρ1 w1 hj hR => (show ρ1 61 = undef from hR.2.1)) ?_ | refine dx_take (i := 18) rfl (fun ρ1 w1 hj hR => (show ρ1 61 = Value.bool _ from hR.2.1)) (fun ρ1 w1 hj hR => x_move (show ρ1 8 = Value.bool _ from hR.1)) ?_
            first | refine dx_skip (i := 19) rfl (fun ρ1 w1 hj hR => (show ρ1 61 = Value.bool _ from hR.2.1)) (by decide) ?_ | refine dx_skipU (i := 19) rfl (fun ρ1 w1 hj hR => (show ρ1 61 = undef from hR.2.1)) ?_ | refine dx_take (i := 19) rfl (fun ρ1 w1 hj hR => (show ρ1 61 = Value.bool _ from hR.2.1)) (fun ρ1 w1 hj hR => x_not (show ρ1 62 = Value.bool _ from hR.1)) ?_
            first | refine dx_skip (i := 20) rfl (fun ρ1 w1 hj hR => (show ρ1 61 = Value.bool _ from hR.2.1)) (by decide) ?_ | refine dx_skipU (i := 20) rfl (fun ρ1 w1 hj hR => (show ρ1 61 = undef from hR.2.1)) ?_ | refine dx_take (i := 20) rfl (fun ρ1 w1 hj hR => (show ρ1 61 = Value.bool _ from hR.2.1)) (fun ρ1 w1 hj hR => x_move (show ρ1 63 = Value.bool _ from hR.1)) ?_
            first | refine dx_skip (i := 21) rfl (fun ρ1 w1 hj hR => (show ρ1 64 = Value.bool _ from hR.2.1)) (by decide) ?_ | refine dx_skipU (i := 21) rfl (fun ρ1 w1 hj hR => (show ρ1 64 = undef from hR.2.1)) ?_ | refine dx_take (i := 21) rfl (fun ρ1 w1 hj hR => (show ρ1 64 = Value.bool _ from hR.2.1)) (fun ρ1 w1 hj hR => x_load (vs := [_, _, _]) TIs.out (show ρ1 6 = Value.pointer _ from hR.1) (hj.hp.rd_blk_at (i := 2) (n := 3) rfl rfl) rfl) ?_
            first | refine dx_skip (i := 22) rfl (fun ρ1 w1 hj hR => (show ρ1 64 = Value.bool _ from hR.2.1)) (by decide) ?_ | refine dx_skipU (i := 22) rfl (fun ρ1 w1 hj hR => (show ρ1 64 = undef from hR.2.1)) ?_ | refine dx_take (i := 22) rfl (fun ρ1 w1 hj hR => (show ρ1 64 = Value.bool _ from hR.2.1)) (fun ρ1 w1 hj hR => x_load (vs := [_, _, _]) TIs.out (show ρ1 5 = Value.pointer _ from hR.1) (hj.hp.rd_blk_at (i := 3) (n := 3) rfl rfl) rfl) ?_
            first | refine dx_skip (i := 23) rfl (fun ρ1 w1 hj hR => (show ρ1 64 = Value.bool _ from hR.2.2.1)) (by decide) ?_ | refine dx_skipU (i := 23) rfl (fun ρ1 w1 hj hR => (show ρ1 64 = undef from hR.2.2.1)) ?_
            first | refine dx_skip (i := 24) rfl (fun ρ1 w1 hj hR => (show ρ1 64 = Value.bool _ from hR.2.1)) (by decide) ?_ | refine dx_skipU (i := 24) rfl (fun ρ1 w1 hj hR => (show ρ1 64 = undef from hR.2.1)) ?_ | refine dx_take (i := 24) rfl (fun ρ1 w1 hj hR => (show ρ1 64 = Value.bool _ from hR.2.1)) (fun ρ1 w1 hj hR => x_load (vs := [_, _, _]) TIs.out (show ρ1 9 = Value.pointer _ from hR.1) (hj.hp.rd_blk_at (i := 0) (n := 3) rfl rfl) rfl) ?_
            refine dx_nil ?_
            intro f W hJ hV _
            have hb_7 := hJ.bl
            obtain ⟨v68, v67, v66, v65, v64, v63, v62, v61, v60, v59, v58, v57, v56, v55, v54, v53, v52, v51, v50, v49, v48, v47, v46, v45, v44, _⟩ := hV
            have e44 : f 0 = _ := v44
            have e45 : f 1 = _ := v45
            have e46 : f 2 = _ := v46
            have e47 : f 3 = _ := v47
            have e48 : f 4 = _ := v48
            have e49 : f 5 = _ := v49
            have e50 : f 6 = _ := v50
            have e51 : f 7 = _ := v51
            have e52 : f 8 = _ := v52
            have e53 : f 9 = _ := v53
            have e54 : f 10 = _ := v54
            have e55 : f 11 = _ := v55
            have e56 : f 12 = _ := v56
            have e57 : f 13 = _ := v57
            have e58 : f 14 = _ := v58
            have e59 : f 15 = _ := v59
            have e60 : f 16 = _ := v60
            have e61 : f 17 = _ := v61
            have e62 : f 18 = _ := v62
            have e63 : f 19 = _ := v63
            have e64 : f 20 = _ := v64
            have e65 : f 21 = _ := v65
            have e66 : f 22 = _ := v66
            have e67 : f 23 = _ := v67
            have e68 : f 24 = _ := v68
            replace hh := hJ.hp
            refine wl_cast (updL_K (eql_cons e68 (eql_cons e67 (eql_cons e66 (eql_cons e65 (eql_cons e64 (eql_cons e63 (eql_cons e62 (eql_cons e61 (eql_cons e60 (eql_cons e59 (eql_cons e58 (eql_cons e57 (eql_cons e56 (eql_cons e55 (eql_cons e54 (eql_cons e53 (eql_cons e52 (eql_cons e51 (eql_cons e50 (eql_cons e49 (eql_cons e48 (eql_cons e47 (eql_cons e46 (eql_cons e45 (eql_cons e44 eql_nil)))))))))))))))))))))))))) ?_
            dsimp only [updK]
            clear e44 e45 e46 e47 e48 e49 e50 e51 e52 e53 e54 e55 e56 e57 e58 e59 e60 e61 e62 e63 e64 e65 e66 e67 e68 hJ
            first | (refine wl_guard_skip (by decide) rfl rfl (by decide) ?_) | (refine wl_guard_take rfl rfl ?_; (first | refine s_neN_f rfl rfl (by first | assumption | rfl) (by decide) ?_ | refine s_neN_t rfl rfl (by assumption) (by decide) ?_)) | (refine wl_guard_skipV (by decide) rfl rfl ?_)
            first | (refine wl_guard_skip (by decide) rfl rfl (by decide) ?_) | (refine wl_guard_take rfl rfl ?_; (first | refine s_pick_t rfl (ev_bool rfl) (by decide) ?_ | refine s_pick_f rfl (ev_bool rfl) (by decide) ?_)) | (refine wl_guard_skipV (by decide) rfl rfl ?_)
            first | refine s_pick_t rfl (ev_bool rfl) (by decide) ?_ | refine s_pick_f rfl (ev_bool rfl) (by decide) ?_
            refine wl_end ?_
            refine wc_cond_f rfl ?_
            refine wc_skip ?_
            refine k_then ?_
            refine wc_seq ?_
            refine wc_region ?_
            refine s_load (vs := [_, _, _]) TIs.out rfl (hh.rd_blk_at (i := 3) (n := 3) rfl rfl) rfl (by decide) ?_
            refine s_build (cs := [_, _, _]) TIs.out PIs.out rfl rfl (by decide) ?_
            -- at some 74
            by_cases zF : F = 0
            · have zF' := (nR_zero_iff F).2 zF
              by_cases zC : C = 0
              · have zC' := (nR_zero_iff C).2 zC
                first | refine s_eqN_t rfl rfl (by first | assumption | rfl) (by decide) ?_ | refine s_eqN_f rfl rfl (by assumption) (by decide) ?_
                refine s_move (ev_bool rfl) (by decide) ?_
                first | (refine wl_guard_skip (by decide) rfl rfl (by decide) ?_) | (refine wl_guard_take rfl rfl ?_; (refine s_fieldAddr (off := 2) FIs.out rfl (by decide) ?_)) | (refine wl_guard_skipV (by decide) rfl rfl ?_)
                first | (refine wl_guard_skip (by decide) rfl rfl (by decide) ?_) | (refine wl_guard_take rfl rfl ?_; (refine s_load1 TIs.out rfl (hh.cell_blk (i := 3) rfl rfl) (by decide) ?_)) | (refine wl_guard_skipV (by decide) rfl rfl ?_)
                first | (refine wl_guard_skip (by decide) rfl rfl (by decide) ?_) | (refine wl_guard_take rfl rfl ?_; (refine s_move (ev_int rfl) (by decide) ?_)) | (refine wl_guard_skipV (by decide) rfl rfl ?_)
                first | (refine wl_guard_skip (by decide) rfl rfl (by decide) ?_) | (refine wl_guard_take rfl rfl ?_; (refine s_negi rfl (by omega) (by omega) (by decide) ?_)) | (refine wl_guard_skipV (by decide) rfl rfl ?_)
                first | (refine wl_guard_skip (by decide) rfl rfl (by decide) ?_) | (refine wl_guard_take rfl rfl ?_; (first | refine s_geq_t rfl rfl (by omega) (by decide) ?_ | refine s_geq_f rfl rfl (by omega) (by decide) ?_ | refine s_geq_v rfl rfl (by decide) ?_)) | (refine wl_guard_skipV (by decide) rfl rfl ?_)
                first | refine s_pick_t rfl (ev_bool rfl) (by decide) ?_ | refine s_pick_f rfl (ev_bool rfl) (by decide) ?_
                refine s_move (ev_bool rfl) (by decide) ?_
                first | (refine wl_guard_skip (by decide) rfl rfl (by decide) ?_) | (refine wl_guard_take rfl rfl ?_; (refine s_load (vs := [_, _, _]) TIs.out rfl (hh.rd_blk_at (i := 2) (n := 3) rfl rfl) rfl (by decide) ?_)) | (refine wl_guard_skipV (by decide) rfl rfl ?_)
                first | (refine wl_guard_skip (by decide) rfl rfl (by decide) ?_) | (refine wl_guard_take rfl rfl ?_; (refine s_build (cs := [_, _, _]) TIs.out PIs.out rfl rfl (by decide) ?_)) | (refine wl_guard_skipV (by decide) rfl rfl ?_)
                first | (refine wl_guard_skip (by decide) rfl rfl (by decide) ?_) | (refine wl_guard_take rfl rfl ?_; (first | refine s_eqN_t rfl rfl (by first | assumption | rfl) (by decide) ?_ | refine s_eqN_f rfl rfl (by assumption) (by decide) ?_)) | (refine wl_guard_skipV (by decide) rfl rfl ?_)
                first | (refine wl_guard_skip (by decide) rfl rfl (by decide) ?_) | (refine wl_guard_take rfl rfl ?_; (refine s_move (ev_bool rfl) (by decide) ?_)) | (refine wl_guard_skipV (by decide) rfl rfl ?_)
                first | (refine wl_guard_skip (by decide) rfl rfl (by decide) ?_) | (refine wl_guard_take rfl rfl ?_; (refine s_fieldAddr (off := 2) FIs.out rfl (by decide) ?_)) | (refine wl_guard_skipV (by decide) rfl rfl ?_)
                first | (refine wl_guard_skip (by decide) rfl rfl (by decide) ?_) | (refine wl_guard_take rfl rfl ?_; (refine s_load1 TIs.out rfl (hh.cell_blk (i := 2) rfl rfl) (by decide) ?_)) | (refine wl_guard_skipV (by decide) rfl rfl ?_)
                first | (refine wl_guard_skip (by decide) rfl rfl (by decide) ?_) | (refine wl_guard_take rfl rfl ?_; (refine s_move (ev_int rfl) (by decide) ?_)) | (refine wl_guard_skipV (by decide) rfl rfl ?_)
                first | (refine wl_guard_skip (by decide) rfl rfl (by decide) ?_) | (refine wl_guard_take rfl rfl ?_; (refine s_negi rfl (by omega) (by omega) (by decide) ?_)) | (refine wl_guard_skipV (by decide) rfl rfl ?_)
                first | (refine wl_guard_skip (by decide) rfl rfl (by decide) ?_) | (refine wl_guard_take rfl rfl ?_; (first | refine s_geq_t rfl rfl (by omega) (by decide) ?_ | refine s_geq_f rfl rfl (by omega) (by decide) ?_ | refine s_geq_v rfl rfl (by decide) ?_)) | (refine wl_guard_skipV (by decide) rfl rfl ?_)
                first | (refine wl_guard_skip (by decide) rfl rfl (by decide) ?_) | (refine wl_guard_take rfl rfl ?_; (first | refine s_pick_t rfl (ev_bool rfl) (by decide) ?_ | refine s_pick_f rfl (ev_bool rfl) (by decide) ?_)) | (refine wl_guard_skipV (by decide) rfl rfl ?_)
                first | refine s_pick_t rfl (ev_bool rfl) (by decide) ?_ | refine s_pick_f rfl (ev_bool rfl) (by decide) ?_
                refine s_move (ev_bool rfl) (by decide) ?_
                -- at guarded Op.call { callee := Callee.value (Operand.func 6), args := #[], argTypes := #[] 
                refine wl_guard_take rfl rfl ?_
                refine s_callf (awake_calls _ (hT.hp hh)) FnIs.out rfl (by decide) ?_
                rintro e_ w95 ⟨rfl, hb_⟩
                refine ⟨_, rfl, ?_⟩
                replace hh := hh.ext hb_
                first | refine s_pick_t rfl (ev_bool rfl) (by decide) ?_ | refine s_pick_f rfl (ev_bool rfl) (by decide) ?_
                refine s_assign (ev_bool rfl) (by decide) ?_
                refine wl_end ?_
                refine wc_ret ?_
                -- at ('end', 'ret')
                refine ret1 (by first | exact .inr rfl | exact .inl rfl) rfl (v_bool rfl) ?_
                exact ⟨rfl, hh.below⟩
              · have zC' : ¬ nR C = ⟨false, ByteArray.mk #[], 0⟩ := fun h => zC ((nR_zero_iff C).1 h)
                have eC := gC.resolve_left zC
                first | refine s_eqN_t rfl rfl (by first | assumption | rfl) (by decide) ?_ | refine s_eqN_f rfl rfl (by assumption) (by decide) ?_
                refine s_move (ev_bool rfl) (by decide) ?_
                first | (refine wl_guard_skip (by decide) rfl rfl (by decide) ?_) | (refine wl_guard_take rfl rfl ?_; (refine s_fieldAddr (off := 2) FIs.out rfl (by decide) ?_)) | (refine wl_guard_skipV (by decide) rfl rfl ?_)
                first | (refine wl_guard_skip (by decide) rfl rfl (by decide) ?_) | (refine wl_guard_take rfl rfl ?_; (refine s_load1 TIs.out rfl (hh.cell_blk (i := 3) rfl rfl) (by decide) ?_)) | (refine wl_guard_skipV (by decide) rfl rfl ?_)
                first | (refine wl_guard_skip (by decide) rfl rfl (by decide) ?_) | (refine wl_guard_take rfl rfl ?_; (refine s_move (ev_int rfl) (by decide) ?_)) | (refine wl_guard_skipV (by decide) rfl rfl ?_)
                first | (refine wl_guard_skip (by decide) rfl rfl (by decide) ?_) | (refine wl_guard_take rfl rfl ?_; (refine s_negi rfl (by omega) (by omega) (by decide) ?_)) | (refine wl_guard_skipV (by decide) rfl rfl ?_)
                first | (refine wl_guard_skip (by decide) rfl rfl (by decide) ?_) | (refine wl_guard_take rfl rfl ?_; (first | refine s_geq_t rfl rfl (by omega) (by decide) ?_ | refine s_geq_f rfl rfl (by omega) (by decide) ?_ | refine s_geq_v rfl rfl (by decide) ?_)) | (refine wl_guard_skipV (by decide) rfl rfl ?_)
                first | refine s_pick_t rfl (ev_bool rfl) (by decide) ?_ | refine s_pick_f rfl (ev_bool rfl) (by decide) ?_
                refine s_move (ev_bool rfl) (by decide) ?_
                first | (refine wl_guard_skip (by decide) rfl rfl (by decide) ?_) | (refine wl_guard_take rfl rfl ?_; (refine s_load (vs := [_, _, _]) TIs.out rfl (hh.rd_blk_at (i := 2) (n := 3) rfl rfl) rfl (by decide) ?_)) | (refine wl_guard_skipV (by decide) rfl rfl ?_)
                first | (refine wl_guard_skip (by decide) rfl rfl (by decide) ?_) | (refine wl_guard_take rfl rfl ?_; (refine s_build (cs := [_, _, _]) TIs.out PIs.out rfl rfl (by decide) ?_)) | (refine wl_guard_skipV (by decide) rfl rfl ?_)
                first | (refine wl_guard_skip (by decide) rfl rfl (by decide) ?_) | (refine wl_guard_take rfl rfl ?_; (first | refine s_eqN_t rfl rfl (by first | assumption | rfl) (by decide) ?_ | refine s_eqN_f rfl rfl (by assumption) (by decide) ?_)) | (refine wl_guard_skipV (by decide) rfl rfl ?_)
                first | (refine wl_guard_skip (by decide) rfl rfl (by decide) ?_) | (refine wl_guard_take rfl rfl ?_; (refine s_move (ev_bool rfl) (by decide) ?_)) | (refine wl_guard_skipV (by decide) rfl rfl ?_)
                first | (refine wl_guard_skip (by decide) rfl rfl (by decide) ?_) | (refine wl_guard_take rfl rfl ?_; (refine s_fieldAddr (off := 2) FIs.out rfl (by decide) ?_)) | (refine wl_guard_skipV (by decide) rfl rfl ?_)
                first | (refine wl_guard_skip (by decide) rfl rfl (by decide) ?_) | (refine wl_guard_take rfl rfl ?_; (refine s_load1 TIs.out rfl (hh.cell_blk (i := 2) rfl rfl) (by decide) ?_)) | (refine wl_guard_skipV (by decide) rfl rfl ?_)
                first | (refine wl_guard_skip (by decide) rfl rfl (by decide) ?_) | (refine wl_guard_take rfl rfl ?_; (refine s_move (ev_int rfl) (by decide) ?_)) | (refine wl_guard_skipV (by decide) rfl rfl ?_)
                first | (refine wl_guard_skip (by decide) rfl rfl (by decide) ?_) | (refine wl_guard_take rfl rfl ?_; (refine s_negi rfl (by omega) (by omega) (by decide) ?_)) | (refine wl_guard_skipV (by decide) rfl rfl ?_)
                first | (refine wl_guard_skip (by decide) rfl rfl (by decide) ?_) | (refine wl_guard_take rfl rfl ?_; (first | refine s_geq_t rfl rfl (by omega) (by decide) ?_ | refine s_geq_f rfl rfl (by omega) (by decide) ?_ | refine s_geq_v rfl rfl (by decide) ?_)) | (refine wl_guard_skipV (by decide) rfl rfl ?_)
                first | (refine wl_guard_skip (by decide) rfl rfl (by decide) ?_) | (refine wl_guard_take rfl rfl ?_; (first | refine s_pick_t rfl (ev_bool rfl) (by decide) ?_ | refine s_pick_f rfl (ev_bool rfl) (by decide) ?_)) | (refine wl_guard_skipV (by decide) rfl rfl ?_)
                first | refine s_pick_t rfl (ev_bool rfl) (by decide) ?_ | refine s_pick_f rfl (ev_bool rfl) (by decide) ?_
                refine s_move (ev_bool rfl) (by decide) ?_
                -- at guarded Op.call { callee := Callee.value (Operand.func 6), args := #[], argTypes := #[] 
                refine wl_guard_take rfl rfl ?_
                refine s_callf (awake_calls _ (hT.hp hh)) FnIs.out rfl (by decide) ?_
                rintro e_ w95 ⟨rfl, hb_⟩
                refine ⟨_, rfl, ?_⟩
                replace hh := hh.ext hb_
                first | refine s_pick_t rfl (ev_bool rfl) (by decide) ?_ | refine s_pick_f rfl (ev_bool rfl) (by decide) ?_
                refine s_assign (ev_bool rfl) (by decide) ?_
                refine wl_end ?_
                refine wc_ret ?_
                -- at ('end', 'ret')
                refine ret1 (by first | exact .inr rfl | exact .inl rfl) rfl (v_bool rfl) ?_
                exact ⟨rfl, hh.below⟩
            · have zF' : ¬ nR F = ⟨false, ByteArray.mk #[], 0⟩ := fun h => zF ((nR_zero_iff F).1 h)
              have eF := gF.resolve_left zF
              by_cases zC : C = 0
              · have zC' := (nR_zero_iff C).2 zC
                first | refine s_eqN_t rfl rfl (by first | assumption | rfl) (by decide) ?_ | refine s_eqN_f rfl rfl (by assumption) (by decide) ?_
                refine s_move (ev_bool rfl) (by decide) ?_
                first | (refine wl_guard_skip (by decide) rfl rfl (by decide) ?_) | (refine wl_guard_take rfl rfl ?_; (refine s_fieldAddr (off := 2) FIs.out rfl (by decide) ?_)) | (refine wl_guard_skipV (by decide) rfl rfl ?_)
                first | (refine wl_guard_skip (by decide) rfl rfl (by decide) ?_) | (refine wl_guard_take rfl rfl ?_; (refine s_load1 TIs.out rfl (hh.cell_blk (i := 3) rfl rfl) (by decide) ?_)) | (refine wl_guard_skipV (by decide) rfl rfl ?_)
                first | (refine wl_guard_skip (by decide) rfl rfl (by decide) ?_) | (refine wl_guard_take rfl rfl ?_; (refine s_move (ev_int rfl) (by decide) ?_)) | (refine wl_guard_skipV (by decide) rfl rfl ?_)
                first | (refine wl_guard_skip (by decide) rfl rfl (by decide) ?_) | (refine wl_guard_take rfl rfl ?_; (refine s_negi rfl (by omega) (by omega) (by decide) ?_)) | (refine wl_guard_skipV (by decide) rfl rfl ?_)
                first | (refine wl_guard_skip (by decide) rfl rfl (by decide) ?_) | (refine wl_guard_take rfl rfl ?_; (first | refine s_geq_t rfl rfl (by omega) (by decide) ?_ | refine s_geq_f rfl rfl (by omega) (by decide) ?_ | refine s_geq_v rfl rfl (by decide) ?_)) | (refine wl_guard_skipV (by decide) rfl rfl ?_)
                first | refine s_pick_t rfl (ev_bool rfl) (by decide) ?_ | refine s_pick_f rfl (ev_bool rfl) (by decide) ?_
                refine s_move (ev_bool rfl) (by decide) ?_
                first | (refine wl_guard_skip (by decide) rfl rfl (by decide) ?_) | (refine wl_guard_take rfl rfl ?_; (refine s_load (vs := [_, _, _]) TIs.out rfl (hh.rd_blk_at (i := 2) (n := 3) rfl rfl) rfl (by decide) ?_)) | (refine wl_guard_skipV (by decide) rfl rfl ?_)
                first | (refine wl_guard_skip (by decide) rfl rfl (by decide) ?_) | (refine wl_guard_take rfl rfl ?_; (refine s_build (cs := [_, _, _]) TIs.out PIs.out rfl rfl (by decide) ?_)) | (refine wl_guard_skipV (by decide) rfl rfl ?_)
                first | (refine wl_guard_skip (by decide) rfl rfl (by decide) ?_) | (refine wl_guard_take rfl rfl ?_; (first | refine s_eqN_t rfl rfl (by first | assumption | rfl) (by decide) ?_ | refine s_eqN_f rfl rfl (by assumption) (by decide) ?_)) | (refine wl_guard_skipV (by decide) rfl rfl ?_)
                first | (refine wl_guard_skip (by decide) rfl rfl (by decide) ?_) | (refine wl_guard_take rfl rfl ?_; (refine s_move (ev_bool rfl) (by decide) ?_)) | (refine wl_guard_skipV (by decide) rfl rfl ?_)
                first | (refine wl_guard_skip (by decide) rfl rfl (by decide) ?_) | (refine wl_guard_take rfl rfl ?_; (refine s_fieldAddr (off := 2) FIs.out rfl (by decide) ?_)) | (refine wl_guard_skipV (by decide) rfl rfl ?_)
                first | (refine wl_guard_skip (by decide) rfl rfl (by decide) ?_) | (refine wl_guard_take rfl rfl ?_; (refine s_load1 TIs.out rfl (hh.cell_blk (i := 2) rfl rfl) (by decide) ?_)) | (refine wl_guard_skipV (by decide) rfl rfl ?_)
                first | (refine wl_guard_skip (by decide) rfl rfl (by decide) ?_) | (refine wl_guard_take rfl rfl ?_; (refine s_move (ev_int rfl) (by decide) ?_)) | (refine wl_guard_skipV (by decide) rfl rfl ?_)
                first | (refine wl_guard_skip (by decide) rfl rfl (by decide) ?_) | (refine wl_guard_take rfl rfl ?_; (refine s_negi rfl (by omega) (by omega) (by decide) ?_)) | (refine wl_guard_skipV (by decide) rfl rfl ?_)
                first | (refine wl_guard_skip (by decide) rfl rfl (by decide) ?_) | (refine wl_guard_take rfl rfl ?_; (first | refine s_geq_t rfl rfl (by omega) (by decide) ?_ | refine s_geq_f rfl rfl (by omega) (by decide) ?_ | refine s_geq_v rfl rfl (by decide) ?_)) | (refine wl_guard_skipV (by decide) rfl rfl ?_)
                first | (refine wl_guard_skip (by decide) rfl rfl (by decide) ?_) | (refine wl_guard_take rfl rfl ?_; (first | refine s_pick_t rfl (ev_bool rfl) (by decide) ?_ | refine s_pick_f rfl (ev_bool rfl) (by decide) ?_)) | (refine wl_guard_skipV (by decide) rfl rfl ?_)
                first | refine s_pick_t rfl (ev_bool rfl) (by decide) ?_ | refine s_pick_f rfl (ev_bool rfl) (by decide) ?_
                refine s_move (ev_bool rfl) (by decide) ?_
                -- at guarded Op.call { callee := Callee.value (Operand.func 6), args := #[], argTypes := #[] 
                refine wl_guard_take rfl rfl ?_
                refine s_callf (awake_calls _ (hT.hp hh)) FnIs.out rfl (by decide) ?_
                rintro e_ w95 ⟨rfl, hb_⟩
                refine ⟨_, rfl, ?_⟩
                replace hh := hh.ext hb_
                first | refine s_pick_t rfl (ev_bool rfl) (by decide) ?_ | refine s_pick_f rfl (ev_bool rfl) (by decide) ?_
                refine s_assign (ev_bool rfl) (by decide) ?_
                refine wl_end ?_
                refine wc_ret ?_
                -- at ('end', 'ret')
                refine ret1 (by first | exact .inr rfl | exact .inl rfl) rfl (v_bool rfl) ?_
                exact ⟨rfl, hh.below⟩
              · have zC' : ¬ nR C = ⟨false, ByteArray.mk #[], 0⟩ := fun h => zC ((nR_zero_iff C).1 h)
                have eC := gC.resolve_left zC
                first | refine s_eqN_t rfl rfl (by first | assumption | rfl) (by decide) ?_ | refine s_eqN_f rfl rfl (by assumption) (by decide) ?_
                refine s_move (ev_bool rfl) (by decide) ?_
                first | (refine wl_guard_skip (by decide) rfl rfl (by decide) ?_) | (refine wl_guard_take rfl rfl ?_; (refine s_fieldAddr (off := 2) FIs.out rfl (by decide) ?_)) | (refine wl_guard_skipV (by decide) rfl rfl ?_)
                first | (refine wl_guard_skip (by decide) rfl rfl (by decide) ?_) | (refine wl_guard_take rfl rfl ?_; (refine s_load1 TIs.out rfl (hh.cell_blk (i := 3) rfl rfl) (by decide) ?_)) | (refine wl_guard_skipV (by decide) rfl rfl ?_)
                first | (refine wl_guard_skip (by decide) rfl rfl (by decide) ?_) | (refine wl_guard_take rfl rfl ?_; (refine s_move (ev_int rfl) (by decide) ?_)) | (refine wl_guard_skipV (by decide) rfl rfl ?_)
                first | (refine wl_guard_skip (by decide) rfl rfl (by decide) ?_) | (refine wl_guard_take rfl rfl ?_; (refine s_negi rfl (by omega) (by omega) (by decide) ?_)) | (refine wl_guard_skipV (by decide) rfl rfl ?_)
                first | (refine wl_guard_skip (by decide) rfl rfl (by decide) ?_) | (refine wl_guard_take rfl rfl ?_; (first | refine s_geq_t rfl rfl (by omega) (by decide) ?_ | refine s_geq_f rfl rfl (by omega) (by decide) ?_ | refine s_geq_v rfl rfl (by decide) ?_)) | (refine wl_guard_skipV (by decide) rfl rfl ?_)
                first | refine s_pick_t rfl (ev_bool rfl) (by decide) ?_ | refine s_pick_f rfl (ev_bool rfl) (by decide) ?_
                refine s_move (ev_bool rfl) (by decide) ?_
                first | (refine wl_guard_skip (by decide) rfl rfl (by decide) ?_) | (refine wl_guard_take rfl rfl ?_; (refine s_load (vs := [_, _, _]) TIs.out rfl (hh.rd_blk_at (i := 2) (n := 3) rfl rfl) rfl (by decide) ?_)) | (refine wl_guard_skipV (by decide) rfl rfl ?_)
                first | (refine wl_guard_skip (by decide) rfl rfl (by decide) ?_) | (refine wl_guard_take rfl rfl ?_; (refine s_build (cs := [_, _, _]) TIs.out PIs.out rfl rfl (by decide) ?_)) | (refine wl_guard_skipV (by decide) rfl rfl ?_)
                first | (refine wl_guard_skip (by decide) rfl rfl (by decide) ?_) | (refine wl_guard_take rfl rfl ?_; (first | refine s_eqN_t rfl rfl (by first | assumption | rfl) (by decide) ?_ | refine s_eqN_f rfl rfl (by assumption) (by decide) ?_)) | (refine wl_guard_skipV (by decide) rfl rfl ?_)
                first | (refine wl_guard_skip (by decide) rfl rfl (by decide) ?_) | (refine wl_guard_take rfl rfl ?_; (refine s_move (ev_bool rfl) (by decide) ?_)) | (refine wl_guard_skipV (by decide) rfl rfl ?_)
                first | (refine wl_guard_skip (by decide) rfl rfl (by decide) ?_) | (refine wl_guard_take rfl rfl ?_; (refine s_fieldAddr (off := 2) FIs.out rfl (by decide) ?_)) | (refine wl_guard_skipV (by decide) rfl rfl ?_)
                first | (refine wl_guard_skip (by decide) rfl rfl (by decide) ?_) | (refine wl_guard_take rfl rfl ?_; (refine s_load1 TIs.out rfl (hh.cell_blk (i := 2) rfl rfl) (by decide) ?_)) | (refine wl_guard_skipV (by decide) rfl rfl ?_)
                first | (refine wl_guard_skip (by decide) rfl rfl (by decide) ?_) | (refine wl_guard_take rfl rfl ?_; (refine s_move (ev_int rfl) (by decide) ?_)) | (refine wl_guard_skipV (by decide) rfl rfl ?_)
                first | (refine wl_guard_skip (by decide) rfl rfl (by decide) ?_) | (refine wl_guard_take rfl rfl ?_; (refine s_negi rfl (by omega) (by omega) (by decide) ?_)) | (refine wl_guard_skipV (by decide) rfl rfl ?_)
                first | (refine wl_guard_skip (by decide) rfl rfl (by decide) ?_) | (refine wl_guard_take rfl rfl ?_; (first | refine s_geq_t rfl rfl (by omega) (by decide) ?_ | refine s_geq_f rfl rfl (by omega) (by decide) ?_ | refine s_geq_v rfl rfl (by decide) ?_)) | (refine wl_guard_skipV (by decide) rfl rfl ?_)
                first | (refine wl_guard_skip (by decide) rfl rfl (by decide) ?_) | (refine wl_guard_take rfl rfl ?_; (first | refine s_pick_t rfl (ev_bool rfl) (by decide) ?_ | refine s_pick_f rfl (ev_bool rfl) (by decide) ?_)) | (refine wl_guard_skipV (by decide) rfl rfl ?_)
                first | refine s_pick_t rfl (ev_bool rfl) (by decide) ?_ | refine s_pick_f rfl (ev_bool rfl) (by decide) ?_
                refine s_move (ev_bool rfl) (by decide) ?_
                -- at guarded Op.call { callee := Callee.value (Operand.func 6), args := #[], argTypes := #[] 
                refine wl_guard_take rfl rfl ?_
                refine s_callf (awake_calls _ (hT.hp hh)) FnIs.out rfl (by decide) ?_
                rintro e_ w95 ⟨rfl, hb_⟩
                refine ⟨_, rfl, ?_⟩
                replace hh := hh.ext hb_
                first | refine s_pick_t rfl (ev_bool rfl) (by decide) ?_ | refine s_pick_f rfl (ev_bool rfl) (by decide) ?_
                refine s_assign (ev_bool rfl) (by decide) ?_
                refine wl_end ?_
                refine wc_ret ?_
                -- at ('end', 'ret')
                refine ret1 (by first | exact .inr rfl | exact .inl rfl) rfl (v_bool rfl) ?_
                exact ⟨rfl, hh.below⟩
        · have hFx : F ≠ a.d := fun h => hg (hgi.1 h)
          have c1 := hst hFx
          have hd : C - F = Dyadic.ofIntWithPrec 1 p := by rw [c1]; grind
          rw [hd] at hsb
          have hFC : ¬ nR F = nR C := nR_ne fun h => by
            have h3 : Dyadic.ofIntWithPrec 1 p = 0 := by rw [← hd, h]; grind
            have := owp_eq_zero h3
            omega
          have hz : ¬ nR a.d = ⟨false, ByteArray.mk #[], 0⟩ := fun h => hg (.inl ((nR_zero_iff a.d).1 h))
          have he : ¬ -p ≤ (nR a.d).e := fun h => hg (.inr h)
          refine calls_vc (N := 97) (l := [.agg #[.bool a.neg, .string a.mag, .int .i64 a.e], .int .i64 p]) Tryd.func4 rfl rfl (by simp) ?_
          refine wc_seq ?_
          refine wc_region ?_
          refine wl_box hh (cs := [_, _, _]) rfl rfl (by decide) ?_
          intro b2 w2 hh
          refine s_assign (ev_bool rfl) (by decide) ?_
          refine wl_end ?_
          refine wc_seq ?_
          refine wc_seq ?_
          refine wc_region ?_
          refine s_load (vs := [_, _, _]) TIs.out rfl (hh.rd_blk_at (i := 0) (n := 3) rfl rfl) rfl (by decide) ?_
          refine wl_buildSlice hh (cs := [_, _, _]) UIs.out TIs.out (evp_cons (ev_agg rfl) evp_nil) rfl rfl (by decide) (by decide) (by decide) rfl (by decide) ?_
          intro b11 w11 hh
          -- at some 12 := Op.call { callee := Callee.value (Operand.func 5), args := #[Operand.const (Value.int IntK
          refine s_callf (long_calls 150 500 _ 1 _ [a] _ (hh.sl_row (i := 0) rfl) (by omega) (by omega) (by omega)) FnIs.out rfl (by decide) ?_
          rintro e_ w12 ⟨rfl, hb_⟩
          refine ⟨_, rfl, ?_⟩
          replace hh := hh.ext hb_
          rw [hlg]
          refine s_move (ev_bool rfl) (by decide) ?_
          first | (refine wl_guard_skip (by decide) rfl rfl (by decide) ?_) | (refine wl_guard_take rfl rfl ?_; (refine s_move (ev_int rfl) (by decide) ?_)) | (refine wl_guard_skipV (by decide) rfl rfl ?_)
          first | (refine wl_guard_skip (by decide) rfl rfl (by decide) ?_) | (refine wl_guard_take rfl rfl ?_; (first | refine s_lss_t rfl rfl (by omega) (by decide) ?_ | refine s_lss_f rfl rfl (by omega) (by decide) ?_ | refine s_lss_v rfl rfl (by decide) ?_)) | (refine wl_guard_skipV (by decide) rfl rfl ?_)
          first | refine s_pick_t rfl (ev_bool rfl) (by decide) ?_ | refine s_pick_f rfl (ev_bool rfl) (by decide) ?_
          refine s_move (ev_bool rfl) (by decide) ?_
          first | (refine wl_guard_skip (by decide) rfl rfl (by decide) ?_) | (refine wl_guard_take rfl rfl ?_; (refine s_move (ev_int rfl) (by decide) ?_)) | (refine wl_guard_skipV (by decide) rfl rfl ?_)
          first | (refine wl_guard_skip (by decide) rfl rfl (by decide) ?_) | (refine wl_guard_take rfl rfl ?_; (first | refine s_gtr_t rfl rfl (by omega) (by decide) ?_ | refine s_gtr_f rfl rfl (by omega) (by decide) ?_ | refine s_gtr_v rfl rfl (by decide) ?_)) | (refine wl_guard_skipV (by decide) rfl rfl ?_)
          first | refine s_pick_t rfl (ev_bool rfl) (by decide) ?_ | refine s_pick_f rfl (ev_bool rfl) (by decide) ?_
          refine wl_end ?_
          refine wc_cond_f rfl ?_
          refine wc_skip ?_
          refine k_then ?_
          refine wc_seq ?_
          -- at the drawn region 3
          refine wc_drawn2 [6, 7] [] [0, 0, 3, 0, 0, 31, 0, 0, 255, 511] 8 [[(2, none)], [(1, none)], [(22, some 0), (23, some 1)], [(2, none)], [(1, none)], [(25, some 3), (26, some 4)], [], []] [(7, 6), (6, 5), (5, 27), (4, 26), (3, 25), (2, 24), (1, 23), (0, 22)] hh mixed (by kernel_rfl) (alok_cons rfl TIs.out (alok_cons rfl TIs.out alok_nil)) rfl (by repeat (first | exact np_ret | refine np_then ?_ | refine np_blk ?_)) ?_
          refine dx_val (i := 0) (fun ρ1 w1 hj hR => x_load (vs := [_, _, _]) TIs.out (show ρ1 2 = Value.pointer _ from hR.1) (hj.hp.rd_blk_at (i := 1) (n := 3) rfl rfl) rfl) ?_
          refine dx_val (i := 1) (fun ρ1 w1 hj hR => x_move (show ρ1 1 = Value.int _ _ from hR.1)) ?_
          refine dx_call (i := 2) (fun ρ1 w1 hj hR => run_callf FnIs.out (evs_cons (show ρ1 22 = Value.agg (List.toArray _) from hR.1) (evs_cons (show ρ1 23 = Value.int _ _ from hR.2.1) evs_nil))) (fun w1 hj => hfl _ (hT.hp hj.hp)) ?_
          refine dx_val (i := 3) (fun ρ1 w1 hj hR => x_load (vs := [_, _, _]) TIs.out (show ρ1 2 = Value.pointer _ from hR.1) (hj.hp.rd_blk_at (i := 1) (n := 3) rfl rfl) rfl) ?_
          refine dx_val (i := 4) (fun ρ1 w1 hj hR => x_move (show ρ1 1 = Value.int _ _ from hR.1)) ?_
          refine dx_call (i := 5) (fun ρ1 w1 hj hR => run_callf FnIs.out (evs_cons (show ρ1 25 = Value.agg (List.toArray _) from hR.1) (evs_cons (show ρ1 26 = Value.int _ _ from hR.2.1) evs_nil))) (fun w1 hj => hce _ (hT.hp hj.hp)) ?_
          refine dx_gen (i := 6) (NewVar _ 25 _) NewVar.ext (fun ρ1 w1 hj hR => og_alloc TIs.out hj.bl (fun v w2 h hb => ⟨hb, h⟩)) ?_
          refine dx_gen (i := 7) (NewVar _ 25 _) NewVar.ext (fun ρ1 w1 hj hR => og_alloc TIs.out hj.bl (fun v w2 h hb => ⟨hb, h⟩)) ?_
          refine dx_nil ?_
          intro f W hJ hV hD
          have hb_3 := hJ.bl
          obtain ⟨v6, v5, v27, v26, v25, v24, v23, v22, _⟩ := hV
          have e22 : f 0 = _ := v22
          have e23 : f 1 = _ := v23
          have e24 : f 2 = _ := v24
          have e25 : f 3 = _ := v25
          have e26 : f 4 = _ := v26
          have e27 : f 5 = _ := v27
          obtain ⟨b5, e5, hl5, hc5⟩ : NewVar _ _ _ (f 6) W := v5
          obtain ⟨b6, e6, hl6, hc6⟩ : NewVar _ _ _ (f 7) W := v6
          have hne := ptr_ne hD (i := 6) (j := 7) (by decide) (by decide) (by decide) e5 e6
          replace hh := hJ.newVar2 hh hl5 hc5 hl6 hc6 hne
          clear hD hne
          refine wl_cast (updL_K (eql_cons e6 (eql_cons e5 (eql_cons e27 (eql_cons e26 (eql_cons e25 (eql_cons e24 (eql_cons e23 (eql_cons e22 eql_nil))))))))) ?_
          dsimp only [updK]
          clear e22 e23 e24 e25 e26 e27 e5 e6 hJ
          refine wl_store hh (i := 1) (vs := [_, _, _]) rfl rfl rfl rfl TIs.out rfl (by simp) rfl ?_
          intro ws hh
          replace hh : Hp _ (_ :: .blk _ _ [_, _, _] _ :: _) _ := hh
          refine wl_store hh (i := 0) (vs := [_, _, _]) rfl rfl rfl rfl TIs.out rfl (by simp) rfl ?_
          intro ws hh
          replace hh : Hp _ (.blk _ _ [_, _, _] _ :: _) _ := hh
          refine wl_end ?_
          refine wc_seq ?_
          refine wc_region ?_
          refine s_load (vs := [_, _, _]) TIs.out rfl (hh.rd_blk_at (i := 3) (n := 3) rfl rfl) rfl (by decide) ?_
          -- at some 29 := Op.call { callee := Callee.value (Operand.func 11), args := #[Operand.tmp 28], argTypes :=
          refine s_callf (dForm_calls a _ (hT.hp hh) (by omega) (by omega) (by omega)) FnIs.out rfl (by decide) ?_
          rintro e_ w29 ⟨rfl, hb_⟩
          refine ⟨_, rfl, ?_⟩
          replace hh := hh.ext hb_
          refine wl_alloc hh TIs.out (by decide) ?_
          intro b7 w7 hh
          refine wl_store hh (i := 0) (vs := [_, _, _]) rfl rfl rfl rfl TIs.out rfl (by simp) rfl ?_
          intro ws hh
          replace hh : Hp _ (.blk _ _ [_, _, _] _ :: _) _ := hh
          refine wl_end ?_
          refine wc_seq ?_
          refine wc_region ?_
          refine s_load (vs := [_, _, _]) TIs.out rfl (hh.rd_blk_at (i := 0) (n := 3) rfl rfl) rfl (by decide) ?_
          refine s_build (cs := [_, _, _]) TIs.out PIs.out rfl rfl (by decide) ?_
          first | refine s_eqN_t rfl rfl (by first | assumption | rfl) (by decide) ?_ | refine s_eqN_f rfl rfl (by assumption) (by decide) ?_
          refine s_move (ev_bool rfl) (by decide) ?_
          first | (refine wl_guard_skip (by decide) rfl rfl (by decide) ?_) | (refine wl_guard_take rfl rfl ?_; (refine s_fieldAddr (off := 2) FIs.out rfl (by decide) ?_)) | (refine wl_guard_skipV (by decide) rfl rfl ?_)
          first | (refine wl_guard_skip (by decide) rfl rfl (by decide) ?_) | (refine wl_guard_take rfl rfl ?_; (refine s_load1 TIs.out rfl (hh.cell_blk (i := 0) rfl rfl) (by decide) ?_)) | (refine wl_guard_skipV (by decide) rfl rfl ?_)
          first | (refine wl_guard_skip (by decide) rfl rfl (by decide) ?_) | (refine wl_guard_take rfl rfl ?_; (refine s_move (ev_int rfl) (by decide) ?_)) | (refine wl_guard_skipV (by decide) rfl rfl ?_)
          first | (refine wl_guard_skip (by decide) rfl rfl (by decide) ?_) | (refine wl_guard_take rfl rfl ?_; (refine s_negi rfl (by omega) (by omega) (by decide) ?_)) | (refine wl_guard_skipV (by decide) rfl rfl ?_)
          first | (refine wl_guard_skip (by decide) rfl rfl (by decide) ?_) | (refine wl_guard_take rfl rfl ?_; (first | refine s_geq_t rfl rfl (by omega) (by decide) ?_ | refine s_geq_f rfl rfl (by omega) (by decide) ?_ | refine s_geq_v rfl rfl (by decide) ?_)) | (refine wl_guard_skipV (by decide) rfl rfl ?_)
          first | refine s_pick_t rfl (ev_bool rfl) (by decide) ?_ | refine s_pick_f rfl (ev_bool rfl) (by decide) ?_
          refine s_assign (ev_bool rfl) (by decide) ?_
          refine wl_end ?_
          refine wc_seq ?_
          refine wc_region ?_
          -- at some 40 := Op.call { callee := Callee.value (Operand.func 15), args := #[Operand.const (Value.int Int
          refine s_callf (dOf_calls 1 _ (hT.hp hh) (by omega) (by omega)) FnIs.out rfl (by decide) ?_
          rintro e_ w40 ⟨rfl, hb_⟩
          refine ⟨_, rfl, ?_⟩
          replace hh := hh.ext hb_
          refine s_move (ev_int rfl) (by decide) ?_
          refine s_negi rfl (by omega) (by omega) (by decide) ?_
          -- at some 43 := Op.call { callee := Callee.value (Operand.func 9), args := #[Operand.tmp 40, Operand.tmp 4
          refine s_callf (hsh _ (hT.hp hh)) FnIs.out rfl (by decide) ?_
          rintro e_ w43 ⟨rfl, hb_⟩
          refine ⟨_, rfl, ?_⟩
          replace hh := hh.ext hb_
          refine wl_alloc hh TIs.out (by decide) ?_
          intro b9 w9 hh
          refine wl_store hh (i := 0) (vs := [_, _, _]) rfl rfl rfl rfl TIs.out rfl (by simp) rfl ?_
          intro ws hh
          replace hh : Hp _ (.blk _ _ [_, _, _] _ :: _) _ := hh
          refine wl_end ?_
          refine wc_seq ?_
          refine wc_seq ?_
          -- at the drawn region 7
          refine wc_drawn2 [] [] [0, 0, 3, 7, 15, 31, 31, 127, 255, 511, 1023, 2047, 2047, 8191, 2047, 32767, 65535, 131071, 262143, 524287, 1048575, 2097151, 2097151, 8388607, 2097151, 33554431, 67108863, 134217727] 25 [[(5, none)], [(2, none)], [(44, some 0), (45, some 1)], [(46, some 2)], [(47, some 3)], [(2, none), (48, some 4)], [(6, none), (48, some 4)], [(49, some 5), (50, some 6), (48, some 4)], [(51, some 7), (48, some 4)], [(48, some 4), (52, some 8)], [(53, some 9)], [(5, none), (54, some 10)], [(6, none), (54, some 10)], [(55, some 11), (56, some 12), (54, some 10)], [(8, none), (54, some 10)], [(57, some 13), (58, some 14), (54, some 10)], [(54, some 10), (59, some 15)], [(60, some 16)], [(8, none), (61, some 17)], [(62, some 18), (61, some 17)], [(63, some 19), (61, some 17)], [(6, none), (64, some 20)], [(5, none), (64, some 20)], [(65, some 21), (66, some 22), (64, some 20)], [(9, none), (64, some 20)]] [(24, 68), (23, 67), (22, 66), (21, 65), (20, 64), (19, 63), (18, 62), (17, 61), (16, 60), (15, 59), (14, 58), (13, 57), (12, 56), (11, 55), (10, 54), (9, 53), (8, 52), (7, 51), (6, 50), (5, 49), (4, 48), (3, 47), (2, 46), (1, 45), (0, 44)] hh mixed (by kernel_rfl) alok_nil rfl (by repeat (first | exact np_ret | refine np_then ?_ | refine np_blk ?_)) ?_
          refine dx_val (i := 0) (fun ρ1 w1 hj hR => x_load (vs := [_, _, _]) TIs.out (show ρ1 5 = Value.pointer _ from hR.1) (hj.hp.rd_blk_at (i := 3) (n := 3) rfl rfl) rfl) ?_
          refine dx_val (i := 1) (fun ρ1 w1 hj hR => x_load (vs := [_, _, _]) TIs.out (show ρ1 2 = Value.pointer _ from hR.1) (hj.hp.rd_blk_at (i := 5) (n := 3) rfl rfl) rfl) ?_
          refine dx_call (i := 2) (fun ρ1 w1 hj hR => run_callf FnIs.out (evs_cons (show ρ1 44 = Value.agg (List.toArray _) from hR.1) (evs_cons (show ρ1 45 = Value.agg (List.toArray _) from hR.2.1) evs_nil))) (fun w1 hj => hc1 _ (hT.hp hj.hp)) ?_
          first | refine dx_val (i := 3) (fun ρ1 w1 hj hR => x_gtr_t (show ρ1 46 = Value.int _ _ from hR.1) rfl (by omega)) ?_ | refine dx_val (i := 3) (fun ρ1 w1 hj hR => x_gtr_f (show ρ1 46 = Value.int _ _ from hR.1) rfl (by omega)) ?_ | refine dx_val (i := 3) (fun ρ1 w1 hj hR => x_gtr_v (show ρ1 46 = Value.int _ _ from hR.1) rfl) ?_
          refine dx_val (i := 4) (fun ρ1 w1 hj hR => x_move (show ρ1 47 = Value.bool _ from hR.1)) ?_
          first | refine dx_skip (i := 5) rfl (fun ρ1 w1 hj hR => (show ρ1 48 = Value.bool _ from hR.2.1)) (by decide) ?_ | refine dx_skipU (i := 5) rfl (fun ρ1 w1 hj hR => (show ρ1 48 = undef from hR.2.1)) ?_ | refine dx_take (i := 5) rfl (fun ρ1 w1 hj hR => (show ρ1 48 = Value.bool _ from hR.2.1)) (fun ρ1 w1 hj hR => x_load (vs := [_, _, _]) TIs.out (show ρ1 2 = Value.pointer _ from hR.1) (hj.hp.rd_blk_at (i := 5) (n := 3) rfl rfl) rfl) ?_
          first | refine dx_skip (i := 6) rfl (fun ρ1 w1 hj hR => (show ρ1 48 = Value.bool _ from hR.2.1)) (by decide) ?_ | refine dx_skipU (i := 6) rfl (fun ρ1 w1 hj hR => (show ρ1 48 = undef from hR.2.1)) ?_ | refine dx_take (i := 6) rfl (fun ρ1 w1 hj hR => (show ρ1 48 = Value.bool _ from hR.2.1)) (fun ρ1 w1 hj hR => x_load (vs := [_, _, _]) TIs.out (show ρ1 6 = Value.pointer _ from hR.1) (hj.hp.rd_blk_at (i := 2) (n := 3) rfl rfl) rfl) ?_
          refine dx_take_call (i := 7) rfl (fun ρ1 w1 hj hR => (show ρ1 48 = Value.bool _ from hR.2.2.1)) (fun ρ1 w1 hj hR => run_callf FnIs.out (evs_cons (show ρ1 49 = Value.agg (List.toArray _) from hR.1) (evs_cons (show ρ1 50 = Value.agg (List.toArray _) from hR.2.1) evs_nil))) (fun w1 hj => hc2 _ (hT.hp hj.hp)) ?_
          first | refine dx_skip (i := 8) rfl (fun ρ1 w1 hj hR => (show ρ1 48 = Value.bool _ from hR.2.1)) (by decide) ?_ | refine dx_skipU (i := 8) rfl (fun ρ1 w1 hj hR => (show ρ1 48 = undef from hR.2.1)) ?_ | refine dx_take (i := 8) rfl (fun ρ1 w1 hj hR => (show ρ1 48 = Value.bool _ from hR.2.1)) (fun ρ1 w1 hj hR => x_gtr_t (show ρ1 51 = Value.int _ _ from hR.1) rfl (by omega)) ?_ | refine dx_take (i := 8) rfl (fun ρ1 w1 hj hR => (show ρ1 48 = Value.bool _ from hR.2.1)) (fun ρ1 w1 hj hR => x_gtr_f (show ρ1 51 = Value.int _ _ from hR.1) rfl (by omega)) ?_ | refine dx_take (i := 8) rfl (fun ρ1 w1 hj hR => (show ρ1 48 = Value.bool _ from hR.2.1)) (fun ρ1 w1 hj hR => x_gtr_v (show ρ1 51 = Value.int _ _ from hR.1) rfl) ?_
          first | refine dx_val (i := 9) (fun ρ1 w1 hj hR => x_pick_t (show ρ1 48 = Value.bool _ from hR.1) rfl) ?_ | refine dx_val (i := 9) (fun ρ1 w1 hj hR => x_pick_f (show ρ1 48 = Value.bool _ from hR.1) (show ρ1 52 = Value.bool _ from hR.2.1)) ?_
          refine dx_val (i := 10) (fun ρ1 w1 hj hR => x_move (show ρ1 53 = Value.bool _ from hR.1)) ?_
          first | refine dx_skip (i := 11) rfl (fun ρ1 w1 hj hR => (show ρ1 54 = Value.bool _ from hR.2.1)) (by decide) ?_ | refine dx_skipU (i := 11) rfl (fun ρ1 w1 hj hR => (show ρ1 54 = undef from hR.2.1)) ?_ | refine dx_take (i := 11) rfl (fun ρ1 w1 hj hR => (show ρ1 54 = Value.bool _ from hR.2.1)) (fun ρ1 w1 hj hR => x_load (vs := [_, _, _]) TIs.out (show ρ1 5 = Value.pointer _ from hR.1) (hj.hp.rd_blk_at (i := 3) (n := 3) rfl rfl) rfl) ?_
          first | refine dx_skip (i := 12) rfl (fun ρ1 w1 hj hR => (show ρ1 54 = Value.bool _ from hR.2.1)) (by decide) ?_ | refine dx_skipU (i := 12) rfl (fun ρ1 w1 hj hR => (show ρ1 54 = undef from hR.2.1)) ?_ | refine dx_take (i := 12) rfl (fun ρ1 w1 hj hR => (show ρ1 54 = Value.bool _ from hR.2.1)) (fun ρ1 w1 hj hR => x_load (vs := [_, _, _]) TIs.out (show ρ1 6 = Value.pointer _ from hR.1) (hj.hp.rd_blk_at (i := 2) (n := 3) rfl rfl) rfl) ?_
          first | refine dx_skip (i := 13) rfl (fun ρ1 w1 hj hR => (show ρ1 54 = Value.bool _ from hR.2.2.1)) (by decide) ?_ | refine dx_skipU (i := 13) rfl (fun ρ1 w1 hj hR => (show ρ1 54 = undef from hR.2.2.1)) ?_ | refine dx_take (i := 13) rfl (fun ρ1 w1 hj hR => (show ρ1 54 = Value.bool _ from hR.2.2.1)) (fun ρ1 w1 hj hR => x_eqN_t (show ρ1 55 = Value.agg (List.toArray _) from hR.1) (show ρ1 56 = Value.agg (List.toArray _) from hR.2.1) (by first | assumption | rfl)) ?_ | refine dx_take (i := 13) rfl (fun ρ1 w1 hj hR => (show ρ1 54 = Value.bool _ from hR.2.2.1)) (fun ρ1 w1 hj hR => x_eqN_f (show ρ1 55 = Value.agg (List.toArray _) from hR.1) (show ρ1 56 = Value.agg (List.toArray _) from hR.2.1) (by assumption)) ?_
          first | refine dx_skip (i := 14) rfl (fun ρ1 w1 hj hR => (show ρ1 54 = Value.bool _ from hR.2.1)) (by decide) ?_ | refine dx_skipU (i := 14) rfl (fun ρ1 w1 hj hR => (show ρ1 54 = undef from hR.2.1)) ?_ | refine dx_take (i := 14) rfl (fun ρ1 w1 hj hR => (show ρ1 54 = Value.bool _ from hR.2.1)) (fun ρ1 w1 hj hR => x_move (show ρ1 8 = Value.bool _ from hR.1)) ?_
          first | refine dx_skip (i := 15) rfl (fun ρ1 w1 hj hR => (show ρ1 54 = Value.bool _ from hR.2.2.1)) (by decide) ?_ | refine dx_skipU (i := 15) rfl (fun ρ1 w1 hj hR => (show ρ1 54 = undef from hR.2.2.1)) ?_ | refine dx_take (i := 15) rfl (fun ρ1 w1 hj hR => (show ρ1 54 = Value.bool _ from hR.2.2.1)) (fun ρ1 w1 hj hR => x_neb_f UIs.out (show ρ1 57 = Value.bool _ from hR.1) (show ρ1 58 = Value.bool _ from hR.2.1) (by first | rfl | assumption)) ?_ | refine dx_take (i := 15) rfl (fun ρ1 w1 hj hR => (show ρ1 54 = Value.bool _ from hR.2.2.1)) (fun ρ1 w1 hj hR => x_neb_t UIs.out (show ρ1 57 = Value.bool _ from hR.1) (show ρ1 58 = Value.bool _ from hR.2.1) (by first | assumption | decide)) ?_ | refine dx_take (i := 15) rfl (fun ρ1 w1 hj hR => (show ρ1 54 = Value.bool _ from hR.2.2.1)) (fun ρ1 w1 hj hR => x_neq_bool UIs.out (show ρ1 57 = Value.bool _ from hR.1) (show ρ1 58 = Value.bool _ from hR.2.1)) ?_
          first | refine dx_val (i := 16) (fun ρ1 w1 hj hR => x_pick_t (show ρ1 54 = Value.bool _ from hR.1) rfl) ?_ | refine dx_val (i := 16) (fun ρ1 w1 hj hR => x_pick_f (show ρ1 54 = Value.bool _ from hR.1) (show ρ1 59 = Value.bool _ from hR.2.1)) ?_
          refine dx_val (i := 17) (fun ρ1 w1 hj hR => x_move (show ρ1 60 = Value.bool _ from hR.1)) ?_
          first | refine dx_skip (i := 18) rfl (fun ρ1 w1 hj hR => (show ρ1 61 = Value.bool _ from hR.2.1)) (by decide) ?_ | refine dx_skipU (i := 18) rfl (fun ρ1 w1 hj hR => (show ρ1 61 = undef from hR.2.1)) ?_ | refine dx_take (i := 18) rfl (fun ρ1 w1 hj hR => (show ρ1 61 = Value.bool _ from hR.2.1)) (fun ρ1 w1 hj hR => x_move (show ρ1 8 = Value.bool _ from hR.1)) ?_
          first | refine dx_skip (i := 19) rfl (fun ρ1 w1 hj hR => (show ρ1 61 = Value.bool _ from hR.2.1)) (by decide) ?_ | refine dx_skipU (i := 19) rfl (fun ρ1 w1 hj hR => (show ρ1 61 = undef from hR.2.1)) ?_ | refine dx_take (i := 19) rfl (fun ρ1 w1 hj hR => (show ρ1 61 = Value.bool _ from hR.2.1)) (fun ρ1 w1 hj hR => x_not (show ρ1 62 = Value.bool _ from hR.1)) ?_
          first | refine dx_skip (i := 20) rfl (fun ρ1 w1 hj hR => (show ρ1 61 = Value.bool _ from hR.2.1)) (by decide) ?_ | refine dx_skipU (i := 20) rfl (fun ρ1 w1 hj hR => (show ρ1 61 = undef from hR.2.1)) ?_ | refine dx_take (i := 20) rfl (fun ρ1 w1 hj hR => (show ρ1 61 = Value.bool _ from hR.2.1)) (fun ρ1 w1 hj hR => x_move (show ρ1 63 = Value.bool _ from hR.1)) ?_
          first | refine dx_skip (i := 21) rfl (fun ρ1 w1 hj hR => (show ρ1 64 = Value.bool _ from hR.2.1)) (by decide) ?_ | refine dx_skipU (i := 21) rfl (fun ρ1 w1 hj hR => (show ρ1 64 = undef from hR.2.1)) ?_ | refine dx_take (i := 21) rfl (fun ρ1 w1 hj hR => (show ρ1 64 = Value.bool _ from hR.2.1)) (fun ρ1 w1 hj hR => x_load (vs := [_, _, _]) TIs.out (show ρ1 6 = Value.pointer _ from hR.1) (hj.hp.rd_blk_at (i := 2) (n := 3) rfl rfl) rfl) ?_
          first | refine dx_skip (i := 22) rfl (fun ρ1 w1 hj hR => (show ρ1 64 = Value.bool _ from hR.2.1)) (by decide) ?_ | refine dx_skipU (i := 22) rfl (fun ρ1 w1 hj hR => (show ρ1 64 = undef from hR.2.1)) ?_ | refine dx_take (i := 22) rfl (fun ρ1 w1 hj hR => (show ρ1 64 = Value.bool _ from hR.2.1)) (fun ρ1 w1 hj hR => x_load (vs := [_, _, _]) TIs.out (show ρ1 5 = Value.pointer _ from hR.1) (hj.hp.rd_blk_at (i := 3) (n := 3) rfl rfl) rfl) ?_
          refine dx_take_call (i := 23) rfl (fun ρ1 w1 hj hR => (show ρ1 64 = Value.bool _ from hR.2.2.1)) (fun ρ1 w1 hj hR => run_callf FnIs.out (evs_cons (show ρ1 65 = Value.agg (List.toArray _) from hR.1) (evs_cons (show ρ1 66 = Value.agg (List.toArray _) from hR.2.1) evs_nil))) (fun w1 hj => hsb _ (hT.hp hj.hp)) ?_
          first | refine dx_skip (i := 24) rfl (fun ρ1 w1 hj hR => (show ρ1 64 = Value.bool _ from hR.2.1)) (by decide) ?_ | refine dx_skipU (i := 24) rfl (fun ρ1 w1 hj hR => (show ρ1 64 = undef from hR.2.1)) ?_ | refine dx_take (i := 24) rfl (fun ρ1 w1 hj hR => (show ρ1 64 = Value.bool _ from hR.2.1)) (fun ρ1 w1 hj hR => x_load (vs := [_, _, _]) TIs.out (show ρ1 9 = Value.pointer _ from hR.1) (hj.hp.rd_blk_at (i := 0) (n := 3) rfl rfl) rfl) ?_
          refine dx_nil ?_
          intro f W hJ hV _
          have hb_7 := hJ.bl
          obtain ⟨v68, v67, v66, v65, v64, v63, v62, v61, v60, v59, v58, v57, v56, v55, v54, v53, v52, v51, v50, v49, v48, v47, v46, v45, v44, _⟩ := hV
          have e44 : f 0 = _ := v44
          have e45 : f 1 = _ := v45
          have e46 : f 2 = _ := v46
          have e47 : f 3 = _ := v47
          have e48 : f 4 = _ := v48
          have e49 : f 5 = _ := v49
          have e50 : f 6 = _ := v50
          have e51 : f 7 = _ := v51
          have e52 : f 8 = _ := v52
          have e53 : f 9 = _ := v53
          have e54 : f 10 = _ := v54
          have e55 : f 11 = _ := v55
          have e56 : f 12 = _ := v56
          have e57 : f 13 = _ := v57
          have e58 : f 14 = _ := v58
          have e59 : f 15 = _ := v59
          have e60 : f 16 = _ := v60
          have e61 : f 17 = _ := v61
          have e62 : f 18 = _ := v62
          have e63 : f 19 = _ := v63
          have e64 : f 20 = _ := v64
          have e65 : f 21 = _ := v65
          have e66 : f 22 = _ := v66
          have e67 : f 23 = _ := v67
          have e68 : f 24 = _ := v68
          replace hh := hJ.hp
          refine wl_cast (updL_K (eql_cons e68 (eql_cons e67 (eql_cons e66 (eql_cons e65 (eql_cons e64 (eql_cons e63 (eql_cons e62 (eql_cons e61 (eql_cons e60 (eql_cons e59 (eql_cons e58 (eql_cons e57 (eql_cons e56 (eql_cons e55 (eql_cons e54 (eql_cons e53 (eql_cons e52 (eql_cons e51 (eql_cons e50 (eql_cons e49 (eql_cons e48 (eql_cons e47 (eql_cons e46 (eql_cons e45 (eql_cons e44 eql_nil)))))))))))))))))))))))))) ?_
          dsimp only [updK]
          clear e44 e45 e46 e47 e48 e49 e50 e51 e52 e53 e54 e55 e56 e57 e58 e59 e60 e61 e62 e63 e64 e65 e66 e67 e68 hJ
          first | (refine wl_guard_skip (by decide) rfl rfl (by decide) ?_) | (refine wl_guard_take rfl rfl ?_; (first | refine s_neN_f rfl rfl (by first | assumption | rfl) (by decide) ?_ | refine s_neN_t rfl rfl (by assumption) (by decide) ?_)) | (refine wl_guard_skipV (by decide) rfl rfl ?_)
          first | (refine wl_guard_skip (by decide) rfl rfl (by decide) ?_) | (refine wl_guard_take rfl rfl ?_; (first | refine s_pick_t rfl (ev_bool rfl) (by decide) ?_ | refine s_pick_f rfl (ev_bool rfl) (by decide) ?_)) | (refine wl_guard_skipV (by decide) rfl rfl ?_)
          first | refine s_pick_t rfl (ev_bool rfl) (by decide) ?_ | refine s_pick_f rfl (ev_bool rfl) (by decide) ?_
          refine wl_end ?_
          refine wc_cond_f rfl ?_
          refine wc_skip ?_
          refine k_then ?_
          refine wc_seq ?_
          refine wc_region ?_
          refine s_load (vs := [_, _, _]) TIs.out rfl (hh.rd_blk_at (i := 3) (n := 3) rfl rfl) rfl (by decide) ?_
          refine s_build (cs := [_, _, _]) TIs.out PIs.out rfl rfl (by decide) ?_
          -- at some 74
          by_cases zF : F = 0
          · have zF' := (nR_zero_iff F).2 zF
            by_cases zC : C = 0
            · have zC' := (nR_zero_iff C).2 zC
              first | refine s_eqN_t rfl rfl (by first | assumption | rfl) (by decide) ?_ | refine s_eqN_f rfl rfl (by assumption) (by decide) ?_
              refine s_move (ev_bool rfl) (by decide) ?_
              first | (refine wl_guard_skip (by decide) rfl rfl (by decide) ?_) | (refine wl_guard_take rfl rfl ?_; (refine s_fieldAddr (off := 2) FIs.out rfl (by decide) ?_)) | (refine wl_guard_skipV (by decide) rfl rfl ?_)
              first | (refine wl_guard_skip (by decide) rfl rfl (by decide) ?_) | (refine wl_guard_take rfl rfl ?_; (refine s_load1 TIs.out rfl (hh.cell_blk (i := 3) rfl rfl) (by decide) ?_)) | (refine wl_guard_skipV (by decide) rfl rfl ?_)
              first | (refine wl_guard_skip (by decide) rfl rfl (by decide) ?_) | (refine wl_guard_take rfl rfl ?_; (refine s_move (ev_int rfl) (by decide) ?_)) | (refine wl_guard_skipV (by decide) rfl rfl ?_)
              first | (refine wl_guard_skip (by decide) rfl rfl (by decide) ?_) | (refine wl_guard_take rfl rfl ?_; (refine s_negi rfl (by omega) (by omega) (by decide) ?_)) | (refine wl_guard_skipV (by decide) rfl rfl ?_)
              first | (refine wl_guard_skip (by decide) rfl rfl (by decide) ?_) | (refine wl_guard_take rfl rfl ?_; (first | refine s_geq_t rfl rfl (by omega) (by decide) ?_ | refine s_geq_f rfl rfl (by omega) (by decide) ?_ | refine s_geq_v rfl rfl (by decide) ?_)) | (refine wl_guard_skipV (by decide) rfl rfl ?_)
              first | refine s_pick_t rfl (ev_bool rfl) (by decide) ?_ | refine s_pick_f rfl (ev_bool rfl) (by decide) ?_
              refine s_move (ev_bool rfl) (by decide) ?_
              first | (refine wl_guard_skip (by decide) rfl rfl (by decide) ?_) | (refine wl_guard_take rfl rfl ?_; (refine s_load (vs := [_, _, _]) TIs.out rfl (hh.rd_blk_at (i := 2) (n := 3) rfl rfl) rfl (by decide) ?_)) | (refine wl_guard_skipV (by decide) rfl rfl ?_)
              first | (refine wl_guard_skip (by decide) rfl rfl (by decide) ?_) | (refine wl_guard_take rfl rfl ?_; (refine s_build (cs := [_, _, _]) TIs.out PIs.out rfl rfl (by decide) ?_)) | (refine wl_guard_skipV (by decide) rfl rfl ?_)
              first | (refine wl_guard_skip (by decide) rfl rfl (by decide) ?_) | (refine wl_guard_take rfl rfl ?_; (first | refine s_eqN_t rfl rfl (by first | assumption | rfl) (by decide) ?_ | refine s_eqN_f rfl rfl (by assumption) (by decide) ?_)) | (refine wl_guard_skipV (by decide) rfl rfl ?_)
              first | (refine wl_guard_skip (by decide) rfl rfl (by decide) ?_) | (refine wl_guard_take rfl rfl ?_; (refine s_move (ev_bool rfl) (by decide) ?_)) | (refine wl_guard_skipV (by decide) rfl rfl ?_)
              first | (refine wl_guard_skip (by decide) rfl rfl (by decide) ?_) | (refine wl_guard_take rfl rfl ?_; (refine s_fieldAddr (off := 2) FIs.out rfl (by decide) ?_)) | (refine wl_guard_skipV (by decide) rfl rfl ?_)
              first | (refine wl_guard_skip (by decide) rfl rfl (by decide) ?_) | (refine wl_guard_take rfl rfl ?_; (refine s_load1 TIs.out rfl (hh.cell_blk (i := 2) rfl rfl) (by decide) ?_)) | (refine wl_guard_skipV (by decide) rfl rfl ?_)
              first | (refine wl_guard_skip (by decide) rfl rfl (by decide) ?_) | (refine wl_guard_take rfl rfl ?_; (refine s_move (ev_int rfl) (by decide) ?_)) | (refine wl_guard_skipV (by decide) rfl rfl ?_)
              first | (refine wl_guard_skip (by decide) rfl rfl (by decide) ?_) | (refine wl_guard_take rfl rfl ?_; (refine s_negi rfl (by omega) (by omega) (by decide) ?_)) | (refine wl_guard_skipV (by decide) rfl rfl ?_)
              first | (refine wl_guard_skip (by decide) rfl rfl (by decide) ?_) | (refine wl_guard_take rfl rfl ?_; (first | refine s_geq_t rfl rfl (by omega) (by decide) ?_ | refine s_geq_f rfl rfl (by omega) (by decide) ?_ | refine s_geq_v rfl rfl (by decide) ?_)) | (refine wl_guard_skipV (by decide) rfl rfl ?_)
              first | (refine wl_guard_skip (by decide) rfl rfl (by decide) ?_) | (refine wl_guard_take rfl rfl ?_; (first | refine s_pick_t rfl (ev_bool rfl) (by decide) ?_ | refine s_pick_f rfl (ev_bool rfl) (by decide) ?_)) | (refine wl_guard_skipV (by decide) rfl rfl ?_)
              first | refine s_pick_t rfl (ev_bool rfl) (by decide) ?_ | refine s_pick_f rfl (ev_bool rfl) (by decide) ?_
              refine s_move (ev_bool rfl) (by decide) ?_
              -- at guarded Op.call { callee := Callee.value (Operand.func 6), args := #[], argTypes := #[] 
              refine wl_guard_take rfl rfl ?_
              refine s_callf (awake_calls _ (hT.hp hh)) FnIs.out rfl (by decide) ?_
              rintro e_ w95 ⟨rfl, hb_⟩
              refine ⟨_, rfl, ?_⟩
              replace hh := hh.ext hb_
              first | refine s_pick_t rfl (ev_bool rfl) (by decide) ?_ | refine s_pick_f rfl (ev_bool rfl) (by decide) ?_
              refine s_assign (ev_bool rfl) (by decide) ?_
              refine wl_end ?_
              refine wc_ret ?_
              -- at ('end', 'ret')
              refine ret1 (by first | exact .inr rfl | exact .inl rfl) rfl (v_bool rfl) ?_
              exact ⟨rfl, hh.below⟩
            · have zC' : ¬ nR C = ⟨false, ByteArray.mk #[], 0⟩ := fun h => zC ((nR_zero_iff C).1 h)
              have eC := gC.resolve_left zC
              first | refine s_eqN_t rfl rfl (by first | assumption | rfl) (by decide) ?_ | refine s_eqN_f rfl rfl (by assumption) (by decide) ?_
              refine s_move (ev_bool rfl) (by decide) ?_
              first | (refine wl_guard_skip (by decide) rfl rfl (by decide) ?_) | (refine wl_guard_take rfl rfl ?_; (refine s_fieldAddr (off := 2) FIs.out rfl (by decide) ?_)) | (refine wl_guard_skipV (by decide) rfl rfl ?_)
              first | (refine wl_guard_skip (by decide) rfl rfl (by decide) ?_) | (refine wl_guard_take rfl rfl ?_; (refine s_load1 TIs.out rfl (hh.cell_blk (i := 3) rfl rfl) (by decide) ?_)) | (refine wl_guard_skipV (by decide) rfl rfl ?_)
              first | (refine wl_guard_skip (by decide) rfl rfl (by decide) ?_) | (refine wl_guard_take rfl rfl ?_; (refine s_move (ev_int rfl) (by decide) ?_)) | (refine wl_guard_skipV (by decide) rfl rfl ?_)
              first | (refine wl_guard_skip (by decide) rfl rfl (by decide) ?_) | (refine wl_guard_take rfl rfl ?_; (refine s_negi rfl (by omega) (by omega) (by decide) ?_)) | (refine wl_guard_skipV (by decide) rfl rfl ?_)
              first | (refine wl_guard_skip (by decide) rfl rfl (by decide) ?_) | (refine wl_guard_take rfl rfl ?_; (first | refine s_geq_t rfl rfl (by omega) (by decide) ?_ | refine s_geq_f rfl rfl (by omega) (by decide) ?_ | refine s_geq_v rfl rfl (by decide) ?_)) | (refine wl_guard_skipV (by decide) rfl rfl ?_)
              first | refine s_pick_t rfl (ev_bool rfl) (by decide) ?_ | refine s_pick_f rfl (ev_bool rfl) (by decide) ?_
              refine s_move (ev_bool rfl) (by decide) ?_
              first | (refine wl_guard_skip (by decide) rfl rfl (by decide) ?_) | (refine wl_guard_take rfl rfl ?_; (refine s_load (vs := [_, _, _]) TIs.out rfl (hh.rd_blk_at (i := 2) (n := 3) rfl rfl) rfl (by decide) ?_)) | (refine wl_guard_skipV (by decide) rfl rfl ?_)
              first | (refine wl_guard_skip (by decide) rfl rfl (by decide) ?_) | (refine wl_guard_take rfl rfl ?_; (refine s_build (cs := [_, _, _]) TIs.out PIs.out rfl rfl (by decide) ?_)) | (refine wl_guard_skipV (by decide) rfl rfl ?_)
              first | (refine wl_guard_skip (by decide) rfl rfl (by decide) ?_) | (refine wl_guard_take rfl rfl ?_; (first | refine s_eqN_t rfl rfl (by first | assumption | rfl) (by decide) ?_ | refine s_eqN_f rfl rfl (by assumption) (by decide) ?_)) | (refine wl_guard_skipV (by decide) rfl rfl ?_)
              first | (refine wl_guard_skip (by decide) rfl rfl (by decide) ?_) | (refine wl_guard_take rfl rfl ?_; (refine s_move (ev_bool rfl) (by decide) ?_)) | (refine wl_guard_skipV (by decide) rfl rfl ?_)
              first | (refine wl_guard_skip (by decide) rfl rfl (by decide) ?_) | (refine wl_guard_take rfl rfl ?_; (refine s_fieldAddr (off := 2) FIs.out rfl (by decide) ?_)) | (refine wl_guard_skipV (by decide) rfl rfl ?_)
              first | (refine wl_guard_skip (by decide) rfl rfl (by decide) ?_) | (refine wl_guard_take rfl rfl ?_; (refine s_load1 TIs.out rfl (hh.cell_blk (i := 2) rfl rfl) (by decide) ?_)) | (refine wl_guard_skipV (by decide) rfl rfl ?_)
              first | (refine wl_guard_skip (by decide) rfl rfl (by decide) ?_) | (refine wl_guard_take rfl rfl ?_; (refine s_move (ev_int rfl) (by decide) ?_)) | (refine wl_guard_skipV (by decide) rfl rfl ?_)
              first | (refine wl_guard_skip (by decide) rfl rfl (by decide) ?_) | (refine wl_guard_take rfl rfl ?_; (refine s_negi rfl (by omega) (by omega) (by decide) ?_)) | (refine wl_guard_skipV (by decide) rfl rfl ?_)
              first | (refine wl_guard_skip (by decide) rfl rfl (by decide) ?_) | (refine wl_guard_take rfl rfl ?_; (first | refine s_geq_t rfl rfl (by omega) (by decide) ?_ | refine s_geq_f rfl rfl (by omega) (by decide) ?_ | refine s_geq_v rfl rfl (by decide) ?_)) | (refine wl_guard_skipV (by decide) rfl rfl ?_)
              first | (refine wl_guard_skip (by decide) rfl rfl (by decide) ?_) | (refine wl_guard_take rfl rfl ?_; (first | refine s_pick_t rfl (ev_bool rfl) (by decide) ?_ | refine s_pick_f rfl (ev_bool rfl) (by decide) ?_)) | (refine wl_guard_skipV (by decide) rfl rfl ?_)
              first | refine s_pick_t rfl (ev_bool rfl) (by decide) ?_ | refine s_pick_f rfl (ev_bool rfl) (by decide) ?_
              refine s_move (ev_bool rfl) (by decide) ?_
              -- at guarded Op.call { callee := Callee.value (Operand.func 6), args := #[], argTypes := #[] 
              refine wl_guard_take rfl rfl ?_
              refine s_callf (awake_calls _ (hT.hp hh)) FnIs.out rfl (by decide) ?_
              rintro e_ w95 ⟨rfl, hb_⟩
              refine ⟨_, rfl, ?_⟩
              replace hh := hh.ext hb_
              first | refine s_pick_t rfl (ev_bool rfl) (by decide) ?_ | refine s_pick_f rfl (ev_bool rfl) (by decide) ?_
              refine s_assign (ev_bool rfl) (by decide) ?_
              refine wl_end ?_
              refine wc_ret ?_
              -- at ('end', 'ret')
              refine ret1 (by first | exact .inr rfl | exact .inl rfl) rfl (v_bool rfl) ?_
              exact ⟨rfl, hh.below⟩
          · have zF' : ¬ nR F = ⟨false, ByteArray.mk #[], 0⟩ := fun h => zF ((nR_zero_iff F).1 h)
            have eF := gF.resolve_left zF
            by_cases zC : C = 0
            · have zC' := (nR_zero_iff C).2 zC
              first | refine s_eqN_t rfl rfl (by first | assumption | rfl) (by decide) ?_ | refine s_eqN_f rfl rfl (by assumption) (by decide) ?_
              refine s_move (ev_bool rfl) (by decide) ?_
              first | (refine wl_guard_skip (by decide) rfl rfl (by decide) ?_) | (refine wl_guard_take rfl rfl ?_; (refine s_fieldAddr (off := 2) FIs.out rfl (by decide) ?_)) | (refine wl_guard_skipV (by decide) rfl rfl ?_)
              first | (refine wl_guard_skip (by decide) rfl rfl (by decide) ?_) | (refine wl_guard_take rfl rfl ?_; (refine s_load1 TIs.out rfl (hh.cell_blk (i := 3) rfl rfl) (by decide) ?_)) | (refine wl_guard_skipV (by decide) rfl rfl ?_)
              first | (refine wl_guard_skip (by decide) rfl rfl (by decide) ?_) | (refine wl_guard_take rfl rfl ?_; (refine s_move (ev_int rfl) (by decide) ?_)) | (refine wl_guard_skipV (by decide) rfl rfl ?_)
              first | (refine wl_guard_skip (by decide) rfl rfl (by decide) ?_) | (refine wl_guard_take rfl rfl ?_; (refine s_negi rfl (by omega) (by omega) (by decide) ?_)) | (refine wl_guard_skipV (by decide) rfl rfl ?_)
              first | (refine wl_guard_skip (by decide) rfl rfl (by decide) ?_) | (refine wl_guard_take rfl rfl ?_; (first | refine s_geq_t rfl rfl (by omega) (by decide) ?_ | refine s_geq_f rfl rfl (by omega) (by decide) ?_ | refine s_geq_v rfl rfl (by decide) ?_)) | (refine wl_guard_skipV (by decide) rfl rfl ?_)
              first | refine s_pick_t rfl (ev_bool rfl) (by decide) ?_ | refine s_pick_f rfl (ev_bool rfl) (by decide) ?_
              refine s_move (ev_bool rfl) (by decide) ?_
              first | (refine wl_guard_skip (by decide) rfl rfl (by decide) ?_) | (refine wl_guard_take rfl rfl ?_; (refine s_load (vs := [_, _, _]) TIs.out rfl (hh.rd_blk_at (i := 2) (n := 3) rfl rfl) rfl (by decide) ?_)) | (refine wl_guard_skipV (by decide) rfl rfl ?_)
              first | (refine wl_guard_skip (by decide) rfl rfl (by decide) ?_) | (refine wl_guard_take rfl rfl ?_; (refine s_build (cs := [_, _, _]) TIs.out PIs.out rfl rfl (by decide) ?_)) | (refine wl_guard_skipV (by decide) rfl rfl ?_)
              first | (refine wl_guard_skip (by decide) rfl rfl (by decide) ?_) | (refine wl_guard_take rfl rfl ?_; (first | refine s_eqN_t rfl rfl (by first | assumption | rfl) (by decide) ?_ | refine s_eqN_f rfl rfl (by assumption) (by decide) ?_)) | (refine wl_guard_skipV (by decide) rfl rfl ?_)
              first | (refine wl_guard_skip (by decide) rfl rfl (by decide) ?_) | (refine wl_guard_take rfl rfl ?_; (refine s_move (ev_bool rfl) (by decide) ?_)) | (refine wl_guard_skipV (by decide) rfl rfl ?_)
              first | (refine wl_guard_skip (by decide) rfl rfl (by decide) ?_) | (refine wl_guard_take rfl rfl ?_; (refine s_fieldAddr (off := 2) FIs.out rfl (by decide) ?_)) | (refine wl_guard_skipV (by decide) rfl rfl ?_)
              first | (refine wl_guard_skip (by decide) rfl rfl (by decide) ?_) | (refine wl_guard_take rfl rfl ?_; (refine s_load1 TIs.out rfl (hh.cell_blk (i := 2) rfl rfl) (by decide) ?_)) | (refine wl_guard_skipV (by decide) rfl rfl ?_)
              first | (refine wl_guard_skip (by decide) rfl rfl (by decide) ?_) | (refine wl_guard_take rfl rfl ?_; (refine s_move (ev_int rfl) (by decide) ?_)) | (refine wl_guard_skipV (by decide) rfl rfl ?_)
              first | (refine wl_guard_skip (by decide) rfl rfl (by decide) ?_) | (refine wl_guard_take rfl rfl ?_; (refine s_negi rfl (by omega) (by omega) (by decide) ?_)) | (refine wl_guard_skipV (by decide) rfl rfl ?_)
              first | (refine wl_guard_skip (by decide) rfl rfl (by decide) ?_) | (refine wl_guard_take rfl rfl ?_; (first | refine s_geq_t rfl rfl (by omega) (by decide) ?_ | refine s_geq_f rfl rfl (by omega) (by decide) ?_ | refine s_geq_v rfl rfl (by decide) ?_)) | (refine wl_guard_skipV (by decide) rfl rfl ?_)
              first | (refine wl_guard_skip (by decide) rfl rfl (by decide) ?_) | (refine wl_guard_take rfl rfl ?_; (first | refine s_pick_t rfl (ev_bool rfl) (by decide) ?_ | refine s_pick_f rfl (ev_bool rfl) (by decide) ?_)) | (refine wl_guard_skipV (by decide) rfl rfl ?_)
              first | refine s_pick_t rfl (ev_bool rfl) (by decide) ?_ | refine s_pick_f rfl (ev_bool rfl) (by decide) ?_
              refine s_move (ev_bool rfl) (by decide) ?_
              -- at guarded Op.call { callee := Callee.value (Operand.func 6), args := #[], argTypes := #[] 
              refine wl_guard_take rfl rfl ?_
              refine s_callf (awake_calls _ (hT.hp hh)) FnIs.out rfl (by decide) ?_
              rintro e_ w95 ⟨rfl, hb_⟩
              refine ⟨_, rfl, ?_⟩
              replace hh := hh.ext hb_
              first | refine s_pick_t rfl (ev_bool rfl) (by decide) ?_ | refine s_pick_f rfl (ev_bool rfl) (by decide) ?_
              refine s_assign (ev_bool rfl) (by decide) ?_
              refine wl_end ?_
              refine wc_ret ?_
              -- at ('end', 'ret')
              refine ret1 (by first | exact .inr rfl | exact .inl rfl) rfl (v_bool rfl) ?_
              exact ⟨rfl, hh.below⟩
            · have zC' : ¬ nR C = ⟨false, ByteArray.mk #[], 0⟩ := fun h => zC ((nR_zero_iff C).1 h)
              have eC := gC.resolve_left zC
              first | refine s_eqN_t rfl rfl (by first | assumption | rfl) (by decide) ?_ | refine s_eqN_f rfl rfl (by assumption) (by decide) ?_
              refine s_move (ev_bool rfl) (by decide) ?_
              first | (refine wl_guard_skip (by decide) rfl rfl (by decide) ?_) | (refine wl_guard_take rfl rfl ?_; (refine s_fieldAddr (off := 2) FIs.out rfl (by decide) ?_)) | (refine wl_guard_skipV (by decide) rfl rfl ?_)
              first | (refine wl_guard_skip (by decide) rfl rfl (by decide) ?_) | (refine wl_guard_take rfl rfl ?_; (refine s_load1 TIs.out rfl (hh.cell_blk (i := 3) rfl rfl) (by decide) ?_)) | (refine wl_guard_skipV (by decide) rfl rfl ?_)
              first | (refine wl_guard_skip (by decide) rfl rfl (by decide) ?_) | (refine wl_guard_take rfl rfl ?_; (refine s_move (ev_int rfl) (by decide) ?_)) | (refine wl_guard_skipV (by decide) rfl rfl ?_)
              first | (refine wl_guard_skip (by decide) rfl rfl (by decide) ?_) | (refine wl_guard_take rfl rfl ?_; (refine s_negi rfl (by omega) (by omega) (by decide) ?_)) | (refine wl_guard_skipV (by decide) rfl rfl ?_)
              first | (refine wl_guard_skip (by decide) rfl rfl (by decide) ?_) | (refine wl_guard_take rfl rfl ?_; (first | refine s_geq_t rfl rfl (by omega) (by decide) ?_ | refine s_geq_f rfl rfl (by omega) (by decide) ?_ | refine s_geq_v rfl rfl (by decide) ?_)) | (refine wl_guard_skipV (by decide) rfl rfl ?_)
              first | refine s_pick_t rfl (ev_bool rfl) (by decide) ?_ | refine s_pick_f rfl (ev_bool rfl) (by decide) ?_
              refine s_move (ev_bool rfl) (by decide) ?_
              first | (refine wl_guard_skip (by decide) rfl rfl (by decide) ?_) | (refine wl_guard_take rfl rfl ?_; (refine s_load (vs := [_, _, _]) TIs.out rfl (hh.rd_blk_at (i := 2) (n := 3) rfl rfl) rfl (by decide) ?_)) | (refine wl_guard_skipV (by decide) rfl rfl ?_)
              first | (refine wl_guard_skip (by decide) rfl rfl (by decide) ?_) | (refine wl_guard_take rfl rfl ?_; (refine s_build (cs := [_, _, _]) TIs.out PIs.out rfl rfl (by decide) ?_)) | (refine wl_guard_skipV (by decide) rfl rfl ?_)
              first | (refine wl_guard_skip (by decide) rfl rfl (by decide) ?_) | (refine wl_guard_take rfl rfl ?_; (first | refine s_eqN_t rfl rfl (by first | assumption | rfl) (by decide) ?_ | refine s_eqN_f rfl rfl (by assumption) (by decide) ?_)) | (refine wl_guard_skipV (by decide) rfl rfl ?_)
              first | (refine wl_guard_skip (by decide) rfl rfl (by decide) ?_) | (refine wl_guard_take rfl rfl ?_; (refine s_move (ev_bool rfl) (by decide) ?_)) | (refine wl_guard_skipV (by decide) rfl rfl ?_)
              first | (refine wl_guard_skip (by decide) rfl rfl (by decide) ?_) | (refine wl_guard_take rfl rfl ?_; (refine s_fieldAddr (off := 2) FIs.out rfl (by decide) ?_)) | (refine wl_guard_skipV (by decide) rfl rfl ?_)
              first | (refine wl_guard_skip (by decide) rfl rfl (by decide) ?_) | (refine wl_guard_take rfl rfl ?_; (refine s_load1 TIs.out rfl (hh.cell_blk (i := 2) rfl rfl) (by decide) ?_)) | (refine wl_guard_skipV (by decide) rfl rfl ?_)
              first | (refine wl_guard_skip (by decide) rfl rfl (by decide) ?_) | (refine wl_guard_take rfl rfl ?_; (refine s_move (ev_int rfl) (by decide) ?_)) | (refine wl_guard_skipV (by decide) rfl rfl ?_)
              first | (refine wl_guard_skip (by decide) rfl rfl (by decide) ?_) | (refine wl_guard_take rfl rfl ?_; (refine s_negi rfl (by omega) (by omega) (by decide) ?_)) | (refine wl_guard_skipV (by decide) rfl rfl ?_)
              first | (refine wl_guard_skip (by decide) rfl rfl (by decide) ?_) | (refine wl_guard_take rfl rfl ?_; (first | refine s_geq_t rfl rfl (by omega) (by decide) ?_ | refine s_geq_f rfl rfl (by omega) (by decide) ?_ | refine s_geq_v rfl rfl (by decide) ?_)) | (refine wl_guard_skipV (by decide) rfl rfl ?_)
              first | (refine wl_guard_skip (by decide) rfl rfl (by decide) ?_) | (refine wl_guard_take rfl rfl ?_; (first | refine s_pick_t rfl (ev_bool rfl) (by decide) ?_ | refine s_pick_f rfl (ev_bool rfl) (by decide) ?_)) | (refine wl_guard_skipV (by decide) rfl rfl ?_)
              first | refine s_pick_t rfl (ev_bool rfl) (by decide) ?_ | refine s_pick_f rfl (ev_bool rfl) (by decide) ?_
              refine s_move (ev_bool rfl) (by decide) ?_
              -- at guarded Op.call { callee := Callee.value (Operand.func 6), args := #[], argTypes := #[] 
              refine wl_guard_take rfl rfl ?_
              refine s_callf (awake_calls _ (hT.hp hh)) FnIs.out rfl (by decide) ?_
              rintro e_ w95 ⟨rfl, hb_⟩
              refine ⟨_, rfl, ?_⟩
              replace hh := hh.ext hb_
              first | refine s_pick_t rfl (ev_bool rfl) (by decide) ?_ | refine s_pick_f rfl (ev_bool rfl) (by decide) ?_
              refine s_assign (ev_bool rfl) (by decide) ?_
              refine wl_end ?_
              refine wc_ret ?_
              -- at ('end', 'ret')
              refine ret1 (by first | exact .inr rfl | exact .inl rfl) rfl (v_bool rfl) ?_
              exact ⟨rfl, hh.below⟩
end Go.Proofs.YtgljgalcbbjfgaaDoor
