/- The walk through the law DyadMuls. -/
import Derived.Test.YtgljgalcbbjfgaaGreatDoorLawD
namespace Go.Proofs.YtgljgalcbbjfgaaGreatDoor
open Go.RowKit
-- umode
theorem short {most far : Int} {l : List NR} (h : longB most far l = false) : ∀ a ∈ l, (a.mag.size : Int) ≤ most ∧ -far ≤ a.e ∧ a.e ≤ far := fun a ha => by
  have := List.any_eq_false.1 h a ha
  simp only [decide_eq_true_eq, not_or] at this
  omega
theorem short_sz {most far : Nat} {a : NR} (h : (a.mag.size : Int) ≤ most ∧ -(far : Int) ≤ a.e ∧ a.e ≤ far) : Sz (8 * most + far) a.d := Sz.raw (m := 8 * most) (E := far) (by omega) h.2.1 h.2.2
theorem dyadMuls_calls (L : Option Addr) (n c : Nat) (l : List NR) (m : Int) (w : World) (hT : Tab w) (hS : Sl w L n 3 (recs NR.cells l)) :
    Calls Tryz.prog 3 #[.slice L n c, .int .i64 m] w fun r w' => r = .returned (.bool true) ∧ Below w.heap.size w w' := by
  have hh := Hp.start w
  have hln := hS.recLen NR.len (by omega)
  by_cases h5 : 5 < n
  · refine calls_vc (N := 45) (l := [.slice L n c, .int .i64 m]) Tryz.func3 rfl rfl (by simp) ?_
    refine wc_seq ?_
    refine wc_region ?_
    refine s_assign (ev_bool rfl) (by decide) ?_
    refine wl_end ?_
    refine wc_seq ?_
    refine wc_seq ?_
    refine wc_region ?_
    refine s_move (ev_sl rfl) (by decide) ?_
    refine s_len_sl UIs.out rfl (by decide) ?_
    first | refine s_gtr_t rfl rfl (by omega) (by decide) ?_ | refine s_gtr_f rfl rfl (by omega) (by decide) ?_ | refine s_gtr_v rfl rfl (by decide) ?_
    refine s_move (ev_bool rfl) (by decide) ?_
    first | (refine wl_guard_skip (by decide) rfl rfl (by decide) ?_) | (refine wl_guard_take rfl rfl ?_; (refine s_move (ev_sl rfl) (by decide) ?_)) | (refine wl_guard_skipV (by decide) rfl rfl ?_)
    refine wl_guard_skip (by decide) rfl rfl (by decide) ?_
    first | refine s_pick_t rfl (ev_bool rfl) (by decide) ?_ | refine s_pick_f rfl (ev_bool rfl) (by decide) ?_
    refine wl_end ?_
    refine wc_cond_t rfl ?_
    refine wc_seq ?_
    refine wc_region ?_
    -- at some 12 := Op.call { callee := Callee.value (Operand.func 9), args := #[], argTypes := #[] }
    refine s_callf (awake_calls _ (hT.hp hh)) FnIs.out rfl (by decide) ?_
    rintro e_ w12 ⟨rfl, hb_⟩
    refine ⟨_, rfl, ?_⟩
    replace hh := hh.ext hb_
    refine s_assign (ev_bool rfl) (by decide) ?_
    refine wl_end ?_
    refine wc_ret ?_
    refine k_ret ?_
    -- at ('end', 'ret')
    refine ret1 (by first | exact .inr rfl | exact .inl rfl) rfl (v_bool rfl) ?_
    exact ⟨rfl, hh.below⟩
  · cases hlg : longB 20 300 l with
    | true =>
      refine calls_vc (N := 45) (l := [.slice L n c, .int .i64 m]) Tryz.func3 rfl rfl (by simp) ?_
      refine wc_seq ?_
      refine wc_region ?_
      refine s_assign (ev_bool rfl) (by decide) ?_
      refine wl_end ?_
      refine wc_seq ?_
      refine wc_seq ?_
      refine wc_region ?_
      refine s_move (ev_sl rfl) (by decide) ?_
      refine s_len_sl UIs.out rfl (by decide) ?_
      first | refine s_gtr_t rfl rfl (by omega) (by decide) ?_ | refine s_gtr_f rfl rfl (by omega) (by decide) ?_ | refine s_gtr_v rfl rfl (by decide) ?_
      refine s_move (ev_bool rfl) (by decide) ?_
      first | (refine wl_guard_skip (by decide) rfl rfl (by decide) ?_) | (refine wl_guard_take rfl rfl ?_; (refine s_move (ev_sl rfl) (by decide) ?_)) | (refine wl_guard_skipV (by decide) rfl rfl ?_)
      -- at guarded Op.call { callee := Callee.value (Operand.func 8), args := #[Operand.const (Valu
      refine wl_guard_take rfl rfl ?_
      refine s_callf (long_calls 20 300 _ n c l _ hS (by omega) (by omega) (by omega)) FnIs.out rfl (by decide) ?_
      rintro e_ w10 ⟨rfl, hb_⟩
      refine ⟨_, rfl, ?_⟩
      replace hh := hh.ext hb_
      rw [hlg]
      first | refine s_pick_t rfl (ev_bool rfl) (by decide) ?_ | refine s_pick_f rfl (ev_bool rfl) (by decide) ?_
      refine wl_end ?_
      refine wc_cond_t rfl ?_
      refine wc_seq ?_
      refine wc_region ?_
      -- at some 12 := Op.call { callee := Callee.value (Operand.func 9), args := #[], argTypes := #[] }
      refine s_callf (awake_calls _ (hT.hp hh)) FnIs.out rfl (by decide) ?_
      rintro e_ w12 ⟨rfl, hb_⟩
      refine ⟨_, rfl, ?_⟩
      replace hh := hh.ext hb_
      refine s_assign (ev_bool rfl) (by decide) ?_
      refine wl_end ?_
      refine wc_ret ?_
      refine k_ret ?_
      -- at ('end', 'ret')
      refine ret1 (by first | exact .inr rfl | exact .inl rfl) rfl (v_bool rfl) ?_
      exact ⟨rfl, hh.below⟩
    | false =>
      have hsh := short hlg
      have hsz : ∀ a ∈ l, Sz 460 a.d := fun a ha => short_sz (most := 20) (far := 300) (hsh a ha)
      have hok : ∀ a ∈ l, a.ok := fun a ha => by have := hsh a ha; exact ⟨by omega, by omega, by omega⟩
      have hdm := fun w1 hT1 hS1 => dMul_calls L n c l w1 hT1 hS1 hok 460 hsz (by omega) (by omega)
      have hym := fun w1 hS1 => yMul_calls L n c l w1 hS1 hok 460 hsz (by omega) (by omega)
      by_cases h0 : n = 0
      · refine calls_vc (N := 45) (l := [.slice L n c, .int .i64 m]) Tryz.func3 rfl rfl (by simp) ?_
        refine wc_seq ?_
        refine wc_region ?_
        refine s_assign (ev_bool rfl) (by decide) ?_
        refine wl_end ?_
        refine wc_seq ?_
        refine wc_seq ?_
        refine wc_region ?_
        refine s_move (ev_sl rfl) (by decide) ?_
        refine s_len_sl UIs.out rfl (by decide) ?_
        first | refine s_gtr_t rfl rfl (by omega) (by decide) ?_ | refine s_gtr_f rfl rfl (by omega) (by decide) ?_ | refine s_gtr_v rfl rfl (by decide) ?_
        refine s_move (ev_bool rfl) (by decide) ?_
        first | (refine wl_guard_skip (by decide) rfl rfl (by decide) ?_) | (refine wl_guard_take rfl rfl ?_; (refine s_move (ev_sl rfl) (by decide) ?_)) | (refine wl_guard_skipV (by decide) rfl rfl ?_)
        -- at guarded Op.call { callee := Callee.value (Operand.func 8), args := #[Operand.const (Valu
        refine wl_guard_take rfl rfl ?_
        refine s_callf (long_calls 20 300 _ n c l _ hS (by omega) (by omega) (by omega)) FnIs.out rfl (by decide) ?_
        rintro e_ w10 ⟨rfl, hb_⟩
        refine ⟨_, rfl, ?_⟩
        replace hh := hh.ext hb_
        rw [hlg]
        first | refine s_pick_t rfl (ev_bool rfl) (by decide) ?_ | refine s_pick_f rfl (ev_bool rfl) (by decide) ?_
        refine wl_end ?_
        refine wc_cond_f rfl ?_
        refine wc_skip ?_
        refine k_then ?_
        refine wc_seq ?_
        refine wc_seq ?_
        refine wc_region ?_
        refine s_move (ev_sl rfl) (by decide) ?_
        -- at some 14 := Op.call { callee := Callee.value (Operand.func 10), args := #[Operand.tmp 13], argTypes :=
        refine s_callf (hdm _ (hT.hp hh) (hS.ext hh.below)) FnIs.out rfl (by decide) ?_
        rintro e_ w14 ⟨rfl, hb_⟩
        refine ⟨_, rfl, ?_⟩
        replace hh := hh.ext hb_
        refine s_move (ev_sl rfl) (by decide) ?_
        -- at some 16 := Op.call { callee := Callee.value (Operand.func 11), args := #[Operand.tmp 15], argTypes :=
        refine s_callf (hym _ (hS.ext hh.below)) FnIs.out rfl (by decide) ?_
        rintro e_ w16 ⟨rfl, hb_⟩
        refine ⟨_, rfl, ?_⟩
        replace hh := hh.ext hb_
        first | refine s_neN_f rfl rfl (by first | assumption | rfl) (by decide) ?_ | refine s_neN_t rfl rfl (by assumption) (by decide) ?_
        refine wl_end ?_
        refine wc_cond_f rfl ?_
        refine wc_skip ?_
        refine k_then ?_
        refine wc_seq ?_
        -- at the drawn region 5
        refine wc_drawn 21 [[(0, none)], [(18, some 0)], [(19, some 1)], [(20, some 2)], [(1, none), (21, some 3)], [(22, some 4), (21, some 3)], [(21, some 3), (23, some 5)], [(24, some 6)], [(1, none), (25, some 7)], [(26, some 8), (25, some 7)], [(25, some 7), (27, some 9)], [(28, some 10)], [(0, none), (29, some 11)], [(30, some 12), (29, some 11)], [(31, some 13), (29, some 11)], [(1, none), (29, some 11)], [(32, some 14), (33, some 15), (29, some 11)], [(0, none), (29, some 11)], [(35, some 17), (29, some 11)], [(36, some 18), (29, some 11)], [(1, none), (29, some 11)]] [(20, 38), (19, 37), (18, 36), (17, 35), (16, 34), (15, 33), (14, 32), (13, 31), (12, 30), (11, 29), (10, 28), (9, 27), (8, 26), (7, 25), (6, 24), (5, 23), (4, 22), (3, 21), (2, 20), (1, 19), (0, 18)] hh mixed (by kernel_rfl) ?_
        refine dx_val (i := 0) (fun ρ1 w1 hj hR => x_move (show ρ1 0 = Value.slice _ _ _ from hR.1)) ?_
        refine dx_val (i := 1) (fun ρ1 w1 hj hR => x_len_sl UIs.out (show ρ1 18 = Value.slice _ _ _ from hR.1)) ?_
        first | refine dx_val (i := 2) (fun ρ1 w1 hj hR => x_eql_t (show ρ1 19 = Value.int _ _ from hR.1) rfl (by omega)) ?_ | refine dx_val (i := 2) (fun ρ1 w1 hj hR => x_eql_f (show ρ1 19 = Value.int _ _ from hR.1) rfl (by omega)) ?_ | refine dx_val (i := 2) (fun ρ1 w1 hj hR => x_eql_v (show ρ1 19 = Value.int _ _ from hR.1) rfl) ?_
        refine dx_val (i := 3) (fun ρ1 w1 hj hR => x_move (show ρ1 20 = Value.bool _ from hR.1)) ?_
        first | refine dx_skip (i := 4) rfl (fun ρ1 w1 hj hR => (show ρ1 21 = Value.bool _ from hR.2.1)) (by decide) ?_ | refine dx_take (i := 4) rfl (fun ρ1 w1 hj hR => (show ρ1 21 = Value.bool _ from hR.2.1)) (fun ρ1 w1 hj hR => x_move (show ρ1 1 = Value.int _ _ from hR.1)) ?_
        first | refine dx_skip (i := 5) rfl (fun ρ1 w1 hj hR => (show ρ1 21 = Value.bool _ from hR.2.1)) (by decide) ?_ | refine dx_take (i := 5) rfl (fun ρ1 w1 hj hR => (show ρ1 21 = Value.bool _ from hR.2.1)) (fun ρ1 w1 hj hR => x_gtr_t (show ρ1 22 = Value.int _ _ from hR.1) rfl (by omega)) ?_ | refine dx_take (i := 5) rfl (fun ρ1 w1 hj hR => (show ρ1 21 = Value.bool _ from hR.2.1)) (fun ρ1 w1 hj hR => x_gtr_f (show ρ1 22 = Value.int _ _ from hR.1) rfl (by omega)) ?_ | refine dx_take (i := 5) rfl (fun ρ1 w1 hj hR => (show ρ1 21 = Value.bool _ from hR.2.1)) (fun ρ1 w1 hj hR => x_gtr_v (show ρ1 22 = Value.int _ _ from hR.1) rfl) ?_
        first | refine dx_val (i := 6) (fun ρ1 w1 hj hR => x_pick_t (show ρ1 21 = Value.bool _ from hR.1) rfl) ?_ | refine dx_val (i := 6) (fun ρ1 w1 hj hR => x_pick_f (show ρ1 21 = Value.bool _ from hR.1) (show ρ1 23 = Value.bool _ from hR.2.1)) ?_
        refine dx_val (i := 7) (fun ρ1 w1 hj hR => x_move (show ρ1 24 = Value.bool _ from hR.1)) ?_
        first | refine dx_skip (i := 8) rfl (fun ρ1 w1 hj hR => (show ρ1 25 = Value.bool _ from hR.2.1)) (by decide) ?_ | refine dx_take (i := 8) rfl (fun ρ1 w1 hj hR => (show ρ1 25 = Value.bool _ from hR.2.1)) (fun ρ1 w1 hj hR => x_move (show ρ1 1 = Value.int _ _ from hR.1)) ?_
        first | refine dx_skip (i := 9) rfl (fun ρ1 w1 hj hR => (show ρ1 25 = Value.bool _ from hR.2.1)) (by decide) ?_ | refine dx_take (i := 9) rfl (fun ρ1 w1 hj hR => (show ρ1 25 = Value.bool _ from hR.2.1)) (fun ρ1 w1 hj hR => x_lss_t (show ρ1 26 = Value.int _ _ from hR.1) rfl (by omega)) ?_ | refine dx_take (i := 9) rfl (fun ρ1 w1 hj hR => (show ρ1 25 = Value.bool _ from hR.2.1)) (fun ρ1 w1 hj hR => x_lss_f (show ρ1 26 = Value.int _ _ from hR.1) rfl (by omega)) ?_ | refine dx_take (i := 9) rfl (fun ρ1 w1 hj hR => (show ρ1 25 = Value.bool _ from hR.2.1)) (fun ρ1 w1 hj hR => x_lss_v (show ρ1 26 = Value.int _ _ from hR.1) rfl) ?_
        first | refine dx_val (i := 10) (fun ρ1 w1 hj hR => x_pick_t (show ρ1 25 = Value.bool _ from hR.1) rfl) ?_ | refine dx_val (i := 10) (fun ρ1 w1 hj hR => x_pick_f (show ρ1 25 = Value.bool _ from hR.1) (show ρ1 27 = Value.bool _ from hR.2.1)) ?_
        refine dx_val (i := 11) (fun ρ1 w1 hj hR => x_move (show ρ1 28 = Value.bool _ from hR.1)) ?_
        first | refine dx_skip (i := 12) rfl (fun ρ1 w1 hj hR => (show ρ1 29 = Value.bool _ from hR.2.1)) (by decide) ?_ | refine dx_take (i := 12) rfl (fun ρ1 w1 hj hR => (show ρ1 29 = Value.bool _ from hR.2.1)) (fun ρ1 w1 hj hR => x_move (show ρ1 0 = Value.slice _ _ _ from hR.1)) ?_
        first | refine dx_skip (i := 13) rfl (fun ρ1 w1 hj hR => (show ρ1 29 = Value.bool _ from hR.2.1)) (by decide) ?_ | refine dx_take (i := 13) rfl (fun ρ1 w1 hj hR => (show ρ1 29 = Value.bool _ from hR.2.1)) (fun ρ1 w1 hj hR => x_indexAddr UIs.out TIs.size (show ρ1 30 = Value.slice _ _ _ from hR.1) rfl (by omega) (by omega)) ?_
        first | refine dx_skip (i := 14) rfl (fun ρ1 w1 hj hR => (show ρ1 29 = Value.bool _ from hR.2.1)) (by decide) ?_ | refine dx_take (i := 14) rfl (fun ρ1 w1 hj hR => (show ρ1 29 = Value.bool _ from hR.2.1)) (fun ρ1 w1 hj hR => x_load (vs := [_, _, _]) TIs.out (show ρ1 31 = Value.pointer _ from hR.1) (trivial) rfl) ?_
        first | refine dx_skip (i := 15) rfl (fun ρ1 w1 hj hR => (show ρ1 29 = Value.bool _ from hR.2.1)) (by decide) ?_ | refine dx_take (i := 15) rfl (fun ρ1 w1 hj hR => (show ρ1 29 = Value.bool _ from hR.2.1)) (fun ρ1 w1 hj hR => x_move (show ρ1 1 = Value.int _ _ from hR.1)) ?_
        refine dx_skip (i := 16) rfl (fun ρ1 w1 hj hR => (show ρ1 29 = Value.bool _ from hR.2.2.1)) (by decide) ?_
        first | refine dx_skip (i := 17) rfl (fun ρ1 w1 hj hR => (show ρ1 29 = Value.bool _ from hR.2.1)) (by decide) ?_ | refine dx_take (i := 17) rfl (fun ρ1 w1 hj hR => (show ρ1 29 = Value.bool _ from hR.2.1)) (fun ρ1 w1 hj hR => x_move (show ρ1 0 = Value.slice _ _ _ from hR.1)) ?_
        first | refine dx_skip (i := 18) rfl (fun ρ1 w1 hj hR => (show ρ1 29 = Value.bool _ from hR.2.1)) (by decide) ?_ | refine dx_take (i := 18) rfl (fun ρ1 w1 hj hR => (show ρ1 29 = Value.bool _ from hR.2.1)) (fun ρ1 w1 hj hR => x_indexAddr UIs.out TIs.size (show ρ1 35 = Value.slice _ _ _ from hR.1) rfl (by omega) (by omega)) ?_
        first | refine dx_skip (i := 19) rfl (fun ρ1 w1 hj hR => (show ρ1 29 = Value.bool _ from hR.2.1)) (by decide) ?_ | refine dx_take (i := 19) rfl (fun ρ1 w1 hj hR => (show ρ1 29 = Value.bool _ from hR.2.1)) (fun ρ1 w1 hj hR => x_load (vs := [_, _, _]) TIs.out (show ρ1 36 = Value.pointer _ from hR.1) (trivial) rfl) ?_
        first | refine dx_skip (i := 20) rfl (fun ρ1 w1 hj hR => (show ρ1 29 = Value.bool _ from hR.2.1)) (by decide) ?_ | refine dx_take (i := 20) rfl (fun ρ1 w1 hj hR => (show ρ1 29 = Value.bool _ from hR.2.1)) (fun ρ1 w1 hj hR => x_move (show ρ1 1 = Value.int _ _ from hR.1)) ?_
        refine dx_nil ?_
        intro f W hJ hV
        have hb_5 := hJ.bl
        obtain ⟨v38, v37, v36, v35, v34, v33, v32, v31, v30, v29, v28, v27, v26, v25, v24, v23, v22, v21, v20, v19, v18, _⟩ := hV
        simp only [updL]
        have e18 : f 0 = _ := v18
        rw [e18]
        have e19 : f 1 = _ := v19
        rw [e19]
        have e20 : f 2 = _ := v20
        rw [e20]
        have e21 : f 3 = _ := v21
        rw [e21]
        have e22 : f 4 = _ := v22
        rw [e22]
        have e23 : f 5 = _ := v23
        rw [e23]
        have e24 : f 6 = _ := v24
        rw [e24]
        have e25 : f 7 = _ := v25
        rw [e25]
        have e26 : f 8 = _ := v26
        rw [e26]
        have e27 : f 9 = _ := v27
        rw [e27]
        have e28 : f 10 = _ := v28
        rw [e28]
        have e29 : f 11 = _ := v29
        rw [e29]
        have e30 : f 12 = _ := v30
        rw [e30]
        have e31 : f 13 = _ := v31
        rw [e31]
        have e32 : f 14 = _ := v32
        rw [e32]
        have e33 : f 15 = _ := v33
        rw [e33]
        have e34 : f 16 = _ := v34
        rw [e34]
        have e35 : f 17 = _ := v35
        rw [e35]
        have e36 : f 18 = _ := v36
        rw [e36]
        have e37 : f 19 = _ := v37
        rw [e37]
        have e38 : f 20 = _ := v38
        rw [e38]
        replace hh := hJ.hp
        clear e18 e19 e20 e21 e22 e23 e24 e25 e26 e27 e28 e29 e30 e31 e32 e33 e34 e35 e36 e37 e38 hJ
        refine wl_guard_skip (by decide) rfl rfl (by decide) ?_
        first | (refine wl_guard_skip (by decide) rfl rfl (by decide) ?_) | (refine wl_guard_take rfl rfl ?_; (first | refine s_eqN_t rfl rfl (by first | assumption | rfl) (by decide) ?_ | refine s_eqN_f rfl rfl (by assumption) (by decide) ?_)) | (refine wl_guard_skipV (by decide) rfl rfl ?_)
        first | refine s_pick_t rfl (ev_bool rfl) (by decide) ?_ | refine s_pick_f rfl (ev_bool rfl) (by decide) ?_
        refine s_move (ev_bool rfl) (by decide) ?_
        -- at guarded Op.call { callee := Callee.value (Operand.func 9), args := #[], argTypes := #[] 
        refine wl_guard_take rfl rfl ?_
        refine s_callf (awake_calls _ (hT.hp hh)) FnIs.out rfl (by decide) ?_
        rintro e_ w43 ⟨rfl, hb_⟩
        refine ⟨_, rfl, ?_⟩
        replace hh := hh.ext hb_
        first | refine s_pick_t rfl (ev_bool rfl) (by decide) ?_ | refine s_pick_f rfl (ev_bool rfl) (by decide) ?_
        refine s_assign (ev_bool rfl) (by decide) ?_
        refine wl_end ?_
        refine wc_ret ?_
        -- at ('end', 'ret')
        refine ret1 (by first | exact .inr rfl | exact .inl rfl) rfl (v_bool rfl) ?_
        exact ⟨rfl, hh.below⟩
      · obtain ⟨x, hx⟩ := get_of_lt (l := l) (k := 0) (by omega)
        obtain ⟨ad, rfl, hr⟩ := hS.at_ (by omega)
        have hxm := List.mem_of_getElem? hx
        have hxs := hsh x hxm
        by_cases h1 : 10 < m
        · refine calls_vc (N := 45) (l := [.slice (some ad) n c, .int .i64 m]) Tryz.func3 rfl rfl (by simp) ?_
          refine wc_seq ?_
          refine wc_region ?_
          refine s_assign (ev_bool rfl) (by decide) ?_
          refine wl_end ?_
          refine wc_seq ?_
          refine wc_seq ?_
          refine wc_region ?_
          refine s_move (ev_sl rfl) (by decide) ?_
          refine s_len_sl UIs.out rfl (by decide) ?_
          first | refine s_gtr_t rfl rfl (by omega) (by decide) ?_ | refine s_gtr_f rfl rfl (by omega) (by decide) ?_ | refine s_gtr_v rfl rfl (by decide) ?_
          refine s_move (ev_bool rfl) (by decide) ?_
          first | (refine wl_guard_skip (by decide) rfl rfl (by decide) ?_) | (refine wl_guard_take rfl rfl ?_; (refine s_move (ev_sl rfl) (by decide) ?_)) | (refine wl_guard_skipV (by decide) rfl rfl ?_)
          -- at guarded Op.call { callee := Callee.value (Operand.func 8), args := #[Operand.const (Valu
          refine wl_guard_take rfl rfl ?_
          refine s_callf (long_calls 20 300 _ n c l _ hS (by omega) (by omega) (by omega)) FnIs.out rfl (by decide) ?_
          rintro e_ w10 ⟨rfl, hb_⟩
          refine ⟨_, rfl, ?_⟩
          replace hh := hh.ext hb_
          rw [hlg]
          first | refine s_pick_t rfl (ev_bool rfl) (by decide) ?_ | refine s_pick_f rfl (ev_bool rfl) (by decide) ?_
          refine wl_end ?_
          refine wc_cond_f rfl ?_
          refine wc_skip ?_
          refine k_then ?_
          refine wc_seq ?_
          refine wc_seq ?_
          refine wc_region ?_
          refine s_move (ev_sl rfl) (by decide) ?_
          -- at some 14 := Op.call { callee := Callee.value (Operand.func 10), args := #[Operand.tmp 13], argTypes :=
          refine s_callf (hdm _ (hT.hp hh) (hS.ext hh.below)) FnIs.out rfl (by decide) ?_
          rintro e_ w14 ⟨rfl, hb_⟩
          refine ⟨_, rfl, ?_⟩
          replace hh := hh.ext hb_
          refine s_move (ev_sl rfl) (by decide) ?_
          -- at some 16 := Op.call { callee := Callee.value (Operand.func 11), args := #[Operand.tmp 15], argTypes :=
          refine s_callf (hym _ (hS.ext hh.below)) FnIs.out rfl (by decide) ?_
          rintro e_ w16 ⟨rfl, hb_⟩
          refine ⟨_, rfl, ?_⟩
          replace hh := hh.ext hb_
          first | refine s_neN_f rfl rfl (by first | assumption | rfl) (by decide) ?_ | refine s_neN_t rfl rfl (by assumption) (by decide) ?_
          refine wl_end ?_
          refine wc_cond_f rfl ?_
          refine wc_skip ?_
          refine k_then ?_
          refine wc_seq ?_
          -- at the drawn region 5
          refine wc_drawn 21 [[(0, none)], [(18, some 0)], [(19, some 1)], [(20, some 2)], [(1, none), (21, some 3)], [(22, some 4), (21, some 3)], [(21, some 3), (23, some 5)], [(24, some 6)], [(1, none), (25, some 7)], [(26, some 8), (25, some 7)], [(25, some 7), (27, some 9)], [(28, some 10)], [(0, none), (29, some 11)], [(30, some 12), (29, some 11)], [(31, some 13), (29, some 11)], [(1, none), (29, some 11)], [(32, some 14), (33, some 15), (29, some 11)], [(0, none), (29, some 11)], [(35, some 17), (29, some 11)], [(36, some 18), (29, some 11)], [(1, none), (29, some 11)]] [(20, 38), (19, 37), (18, 36), (17, 35), (16, 34), (15, 33), (14, 32), (13, 31), (12, 30), (11, 29), (10, 28), (9, 27), (8, 26), (7, 25), (6, 24), (5, 23), (4, 22), (3, 21), (2, 20), (1, 19), (0, 18)] hh mixed (by kernel_rfl) ?_
          refine dx_val (i := 0) (fun ρ1 w1 hj hR => x_move (show ρ1 0 = Value.slice _ _ _ from hR.1)) ?_
          refine dx_val (i := 1) (fun ρ1 w1 hj hR => x_len_sl UIs.out (show ρ1 18 = Value.slice _ _ _ from hR.1)) ?_
          first | refine dx_val (i := 2) (fun ρ1 w1 hj hR => x_eql_t (show ρ1 19 = Value.int _ _ from hR.1) rfl (by omega)) ?_ | refine dx_val (i := 2) (fun ρ1 w1 hj hR => x_eql_f (show ρ1 19 = Value.int _ _ from hR.1) rfl (by omega)) ?_ | refine dx_val (i := 2) (fun ρ1 w1 hj hR => x_eql_v (show ρ1 19 = Value.int _ _ from hR.1) rfl) ?_
          refine dx_val (i := 3) (fun ρ1 w1 hj hR => x_move (show ρ1 20 = Value.bool _ from hR.1)) ?_
          first | refine dx_skip (i := 4) rfl (fun ρ1 w1 hj hR => (show ρ1 21 = Value.bool _ from hR.2.1)) (by decide) ?_ | refine dx_take (i := 4) rfl (fun ρ1 w1 hj hR => (show ρ1 21 = Value.bool _ from hR.2.1)) (fun ρ1 w1 hj hR => x_move (show ρ1 1 = Value.int _ _ from hR.1)) ?_
          first | refine dx_skip (i := 5) rfl (fun ρ1 w1 hj hR => (show ρ1 21 = Value.bool _ from hR.2.1)) (by decide) ?_ | refine dx_take (i := 5) rfl (fun ρ1 w1 hj hR => (show ρ1 21 = Value.bool _ from hR.2.1)) (fun ρ1 w1 hj hR => x_gtr_t (show ρ1 22 = Value.int _ _ from hR.1) rfl (by omega)) ?_ | refine dx_take (i := 5) rfl (fun ρ1 w1 hj hR => (show ρ1 21 = Value.bool _ from hR.2.1)) (fun ρ1 w1 hj hR => x_gtr_f (show ρ1 22 = Value.int _ _ from hR.1) rfl (by omega)) ?_ | refine dx_take (i := 5) rfl (fun ρ1 w1 hj hR => (show ρ1 21 = Value.bool _ from hR.2.1)) (fun ρ1 w1 hj hR => x_gtr_v (show ρ1 22 = Value.int _ _ from hR.1) rfl) ?_
          first | refine dx_val (i := 6) (fun ρ1 w1 hj hR => x_pick_t (show ρ1 21 = Value.bool _ from hR.1) rfl) ?_ | refine dx_val (i := 6) (fun ρ1 w1 hj hR => x_pick_f (show ρ1 21 = Value.bool _ from hR.1) (show ρ1 23 = Value.bool _ from hR.2.1)) ?_
          refine dx_val (i := 7) (fun ρ1 w1 hj hR => x_move (show ρ1 24 = Value.bool _ from hR.1)) ?_
          first | refine dx_skip (i := 8) rfl (fun ρ1 w1 hj hR => (show ρ1 25 = Value.bool _ from hR.2.1)) (by decide) ?_ | refine dx_take (i := 8) rfl (fun ρ1 w1 hj hR => (show ρ1 25 = Value.bool _ from hR.2.1)) (fun ρ1 w1 hj hR => x_move (show ρ1 1 = Value.int _ _ from hR.1)) ?_
          first | refine dx_skip (i := 9) rfl (fun ρ1 w1 hj hR => (show ρ1 25 = Value.bool _ from hR.2.1)) (by decide) ?_ | refine dx_take (i := 9) rfl (fun ρ1 w1 hj hR => (show ρ1 25 = Value.bool _ from hR.2.1)) (fun ρ1 w1 hj hR => x_lss_t (show ρ1 26 = Value.int _ _ from hR.1) rfl (by omega)) ?_ | refine dx_take (i := 9) rfl (fun ρ1 w1 hj hR => (show ρ1 25 = Value.bool _ from hR.2.1)) (fun ρ1 w1 hj hR => x_lss_f (show ρ1 26 = Value.int _ _ from hR.1) rfl (by omega)) ?_ | refine dx_take (i := 9) rfl (fun ρ1 w1 hj hR => (show ρ1 25 = Value.bool _ from hR.2.1)) (fun ρ1 w1 hj hR => x_lss_v (show ρ1 26 = Value.int _ _ from hR.1) rfl) ?_
          first | refine dx_val (i := 10) (fun ρ1 w1 hj hR => x_pick_t (show ρ1 25 = Value.bool _ from hR.1) rfl) ?_ | refine dx_val (i := 10) (fun ρ1 w1 hj hR => x_pick_f (show ρ1 25 = Value.bool _ from hR.1) (show ρ1 27 = Value.bool _ from hR.2.1)) ?_
          refine dx_val (i := 11) (fun ρ1 w1 hj hR => x_move (show ρ1 28 = Value.bool _ from hR.1)) ?_
          first | refine dx_skip (i := 12) rfl (fun ρ1 w1 hj hR => (show ρ1 29 = Value.bool _ from hR.2.1)) (by decide) ?_ | refine dx_take (i := 12) rfl (fun ρ1 w1 hj hR => (show ρ1 29 = Value.bool _ from hR.2.1)) (fun ρ1 w1 hj hR => x_move (show ρ1 0 = Value.slice _ _ _ from hR.1)) ?_
          first | refine dx_skip (i := 13) rfl (fun ρ1 w1 hj hR => (show ρ1 29 = Value.bool _ from hR.2.1)) (by decide) ?_ | refine dx_take (i := 13) rfl (fun ρ1 w1 hj hR => (show ρ1 29 = Value.bool _ from hR.2.1)) (fun ρ1 w1 hj hR => x_indexAddr UIs.out TIs.size (show ρ1 30 = Value.slice _ _ _ from hR.1) rfl (by omega) (by omega)) ?_
          first | refine dx_skip (i := 14) rfl (fun ρ1 w1 hj hR => (show ρ1 29 = Value.bool _ from hR.2.1)) (by decide) ?_ | refine dx_take (i := 14) rfl (fun ρ1 w1 hj hR => (show ρ1 29 = Value.bool _ from hR.2.1)) (fun ρ1 w1 hj hR => x_load (vs := [_, _, _]) TIs.out (show ρ1 31 = Value.pointer _ from hR.1) (trivial) rfl) ?_
          first | refine dx_skip (i := 15) rfl (fun ρ1 w1 hj hR => (show ρ1 29 = Value.bool _ from hR.2.1)) (by decide) ?_ | refine dx_take (i := 15) rfl (fun ρ1 w1 hj hR => (show ρ1 29 = Value.bool _ from hR.2.1)) (fun ρ1 w1 hj hR => x_move (show ρ1 1 = Value.int _ _ from hR.1)) ?_
          refine dx_skip (i := 16) rfl (fun ρ1 w1 hj hR => (show ρ1 29 = Value.bool _ from hR.2.2.1)) (by decide) ?_
          first | refine dx_skip (i := 17) rfl (fun ρ1 w1 hj hR => (show ρ1 29 = Value.bool _ from hR.2.1)) (by decide) ?_ | refine dx_take (i := 17) rfl (fun ρ1 w1 hj hR => (show ρ1 29 = Value.bool _ from hR.2.1)) (fun ρ1 w1 hj hR => x_move (show ρ1 0 = Value.slice _ _ _ from hR.1)) ?_
          first | refine dx_skip (i := 18) rfl (fun ρ1 w1 hj hR => (show ρ1 29 = Value.bool _ from hR.2.1)) (by decide) ?_ | refine dx_take (i := 18) rfl (fun ρ1 w1 hj hR => (show ρ1 29 = Value.bool _ from hR.2.1)) (fun ρ1 w1 hj hR => x_indexAddr UIs.out TIs.size (show ρ1 35 = Value.slice _ _ _ from hR.1) rfl (by omega) (by omega)) ?_
          first | refine dx_skip (i := 19) rfl (fun ρ1 w1 hj hR => (show ρ1 29 = Value.bool _ from hR.2.1)) (by decide) ?_ | refine dx_take (i := 19) rfl (fun ρ1 w1 hj hR => (show ρ1 29 = Value.bool _ from hR.2.1)) (fun ρ1 w1 hj hR => x_load (vs := [_, _, _]) TIs.out (show ρ1 36 = Value.pointer _ from hR.1) (trivial) rfl) ?_
          first | refine dx_skip (i := 20) rfl (fun ρ1 w1 hj hR => (show ρ1 29 = Value.bool _ from hR.2.1)) (by decide) ?_ | refine dx_take (i := 20) rfl (fun ρ1 w1 hj hR => (show ρ1 29 = Value.bool _ from hR.2.1)) (fun ρ1 w1 hj hR => x_move (show ρ1 1 = Value.int _ _ from hR.1)) ?_
          refine dx_nil ?_
          intro f W hJ hV
          have hb_5 := hJ.bl
          obtain ⟨v38, v37, v36, v35, v34, v33, v32, v31, v30, v29, v28, v27, v26, v25, v24, v23, v22, v21, v20, v19, v18, _⟩ := hV
          simp only [updL]
          have e18 : f 0 = _ := v18
          rw [e18]
          have e19 : f 1 = _ := v19
          rw [e19]
          have e20 : f 2 = _ := v20
          rw [e20]
          have e21 : f 3 = _ := v21
          rw [e21]
          have e22 : f 4 = _ := v22
          rw [e22]
          have e23 : f 5 = _ := v23
          rw [e23]
          have e24 : f 6 = _ := v24
          rw [e24]
          have e25 : f 7 = _ := v25
          rw [e25]
          have e26 : f 8 = _ := v26
          rw [e26]
          have e27 : f 9 = _ := v27
          rw [e27]
          have e28 : f 10 = _ := v28
          rw [e28]
          have e29 : f 11 = _ := v29
          rw [e29]
          have e30 : f 12 = _ := v30
          rw [e30]
          have e31 : f 13 = _ := v31
          rw [e31]
          have e32 : f 14 = _ := v32
          rw [e32]
          have e33 : f 15 = _ := v33
          rw [e33]
          have e34 : f 16 = _ := v34
          rw [e34]
          have e35 : f 17 = _ := v35
          rw [e35]
          have e36 : f 18 = _ := v36
          rw [e36]
          have e37 : f 19 = _ := v37
          rw [e37]
          have e38 : f 20 = _ := v38
          rw [e38]
          replace hh := hJ.hp
          clear e18 e19 e20 e21 e22 e23 e24 e25 e26 e27 e28 e29 e30 e31 e32 e33 e34 e35 e36 e37 e38 hJ
          refine wl_guard_skip (by decide) rfl rfl (by decide) ?_
          first | (refine wl_guard_skip (by decide) rfl rfl (by decide) ?_) | (refine wl_guard_take rfl rfl ?_; (first | refine s_eqN_t rfl rfl (by first | assumption | rfl) (by decide) ?_ | refine s_eqN_f rfl rfl (by assumption) (by decide) ?_)) | (refine wl_guard_skipV (by decide) rfl rfl ?_)
          first | refine s_pick_t rfl (ev_bool rfl) (by decide) ?_ | refine s_pick_f rfl (ev_bool rfl) (by decide) ?_
          refine s_move (ev_bool rfl) (by decide) ?_
          -- at guarded Op.call { callee := Callee.value (Operand.func 9), args := #[], argTypes := #[] 
          refine wl_guard_take rfl rfl ?_
          refine s_callf (awake_calls _ (hT.hp hh)) FnIs.out rfl (by decide) ?_
          rintro e_ w43 ⟨rfl, hb_⟩
          refine ⟨_, rfl, ?_⟩
          replace hh := hh.ext hb_
          first | refine s_pick_t rfl (ev_bool rfl) (by decide) ?_ | refine s_pick_f rfl (ev_bool rfl) (by decide) ?_
          refine s_assign (ev_bool rfl) (by decide) ?_
          refine wl_end ?_
          refine wc_ret ?_
          -- at ('end', 'ret')
          refine ret1 (by first | exact .inr rfl | exact .inl rfl) rfl (v_bool rfl) ?_
          exact ⟨rfl, hh.below⟩
        · by_cases h2 : m < -1000
          · refine calls_vc (N := 45) (l := [.slice (some ad) n c, .int .i64 m]) Tryz.func3 rfl rfl (by simp) ?_
            refine wc_seq ?_
            refine wc_region ?_
            refine s_assign (ev_bool rfl) (by decide) ?_
            refine wl_end ?_
            refine wc_seq ?_
            refine wc_seq ?_
            refine wc_region ?_
            refine s_move (ev_sl rfl) (by decide) ?_
            refine s_len_sl UIs.out rfl (by decide) ?_
            first | refine s_gtr_t rfl rfl (by omega) (by decide) ?_ | refine s_gtr_f rfl rfl (by omega) (by decide) ?_ | refine s_gtr_v rfl rfl (by decide) ?_
            refine s_move (ev_bool rfl) (by decide) ?_
            first | (refine wl_guard_skip (by decide) rfl rfl (by decide) ?_) | (refine wl_guard_take rfl rfl ?_; (refine s_move (ev_sl rfl) (by decide) ?_)) | (refine wl_guard_skipV (by decide) rfl rfl ?_)
            -- at guarded Op.call { callee := Callee.value (Operand.func 8), args := #[Operand.const (Valu
            refine wl_guard_take rfl rfl ?_
            refine s_callf (long_calls 20 300 _ n c l _ hS (by omega) (by omega) (by omega)) FnIs.out rfl (by decide) ?_
            rintro e_ w10 ⟨rfl, hb_⟩
            refine ⟨_, rfl, ?_⟩
            replace hh := hh.ext hb_
            rw [hlg]
            first | refine s_pick_t rfl (ev_bool rfl) (by decide) ?_ | refine s_pick_f rfl (ev_bool rfl) (by decide) ?_
            refine wl_end ?_
            refine wc_cond_f rfl ?_
            refine wc_skip ?_
            refine k_then ?_
            refine wc_seq ?_
            refine wc_seq ?_
            refine wc_region ?_
            refine s_move (ev_sl rfl) (by decide) ?_
            -- at some 14 := Op.call { callee := Callee.value (Operand.func 10), args := #[Operand.tmp 13], argTypes :=
            refine s_callf (hdm _ (hT.hp hh) (hS.ext hh.below)) FnIs.out rfl (by decide) ?_
            rintro e_ w14 ⟨rfl, hb_⟩
            refine ⟨_, rfl, ?_⟩
            replace hh := hh.ext hb_
            refine s_move (ev_sl rfl) (by decide) ?_
            -- at some 16 := Op.call { callee := Callee.value (Operand.func 11), args := #[Operand.tmp 15], argTypes :=
            refine s_callf (hym _ (hS.ext hh.below)) FnIs.out rfl (by decide) ?_
            rintro e_ w16 ⟨rfl, hb_⟩
            refine ⟨_, rfl, ?_⟩
            replace hh := hh.ext hb_
            first | refine s_neN_f rfl rfl (by first | assumption | rfl) (by decide) ?_ | refine s_neN_t rfl rfl (by assumption) (by decide) ?_
            refine wl_end ?_
            refine wc_cond_f rfl ?_
            refine wc_skip ?_
            refine k_then ?_
            refine wc_seq ?_
            -- at the drawn region 5
            refine wc_drawn 21 [[(0, none)], [(18, some 0)], [(19, some 1)], [(20, some 2)], [(1, none), (21, some 3)], [(22, some 4), (21, some 3)], [(21, some 3), (23, some 5)], [(24, some 6)], [(1, none), (25, some 7)], [(26, some 8), (25, some 7)], [(25, some 7), (27, some 9)], [(28, some 10)], [(0, none), (29, some 11)], [(30, some 12), (29, some 11)], [(31, some 13), (29, some 11)], [(1, none), (29, some 11)], [(32, some 14), (33, some 15), (29, some 11)], [(0, none), (29, some 11)], [(35, some 17), (29, some 11)], [(36, some 18), (29, some 11)], [(1, none), (29, some 11)]] [(20, 38), (19, 37), (18, 36), (17, 35), (16, 34), (15, 33), (14, 32), (13, 31), (12, 30), (11, 29), (10, 28), (9, 27), (8, 26), (7, 25), (6, 24), (5, 23), (4, 22), (3, 21), (2, 20), (1, 19), (0, 18)] hh mixed (by kernel_rfl) ?_
            refine dx_val (i := 0) (fun ρ1 w1 hj hR => x_move (show ρ1 0 = Value.slice _ _ _ from hR.1)) ?_
            refine dx_val (i := 1) (fun ρ1 w1 hj hR => x_len_sl UIs.out (show ρ1 18 = Value.slice _ _ _ from hR.1)) ?_
            first | refine dx_val (i := 2) (fun ρ1 w1 hj hR => x_eql_t (show ρ1 19 = Value.int _ _ from hR.1) rfl (by omega)) ?_ | refine dx_val (i := 2) (fun ρ1 w1 hj hR => x_eql_f (show ρ1 19 = Value.int _ _ from hR.1) rfl (by omega)) ?_ | refine dx_val (i := 2) (fun ρ1 w1 hj hR => x_eql_v (show ρ1 19 = Value.int _ _ from hR.1) rfl) ?_
            refine dx_val (i := 3) (fun ρ1 w1 hj hR => x_move (show ρ1 20 = Value.bool _ from hR.1)) ?_
            first | refine dx_skip (i := 4) rfl (fun ρ1 w1 hj hR => (show ρ1 21 = Value.bool _ from hR.2.1)) (by decide) ?_ | refine dx_take (i := 4) rfl (fun ρ1 w1 hj hR => (show ρ1 21 = Value.bool _ from hR.2.1)) (fun ρ1 w1 hj hR => x_move (show ρ1 1 = Value.int _ _ from hR.1)) ?_
            first | refine dx_skip (i := 5) rfl (fun ρ1 w1 hj hR => (show ρ1 21 = Value.bool _ from hR.2.1)) (by decide) ?_ | refine dx_take (i := 5) rfl (fun ρ1 w1 hj hR => (show ρ1 21 = Value.bool _ from hR.2.1)) (fun ρ1 w1 hj hR => x_gtr_t (show ρ1 22 = Value.int _ _ from hR.1) rfl (by omega)) ?_ | refine dx_take (i := 5) rfl (fun ρ1 w1 hj hR => (show ρ1 21 = Value.bool _ from hR.2.1)) (fun ρ1 w1 hj hR => x_gtr_f (show ρ1 22 = Value.int _ _ from hR.1) rfl (by omega)) ?_ | refine dx_take (i := 5) rfl (fun ρ1 w1 hj hR => (show ρ1 21 = Value.bool _ from hR.2.1)) (fun ρ1 w1 hj hR => x_gtr_v (show ρ1 22 = Value.int _ _ from hR.1) rfl) ?_
            first | refine dx_val (i := 6) (fun ρ1 w1 hj hR => x_pick_t (show ρ1 21 = Value.bool _ from hR.1) rfl) ?_ | refine dx_val (i := 6) (fun ρ1 w1 hj hR => x_pick_f (show ρ1 21 = Value.bool _ from hR.1) (show ρ1 23 = Value.bool _ from hR.2.1)) ?_
            refine dx_val (i := 7) (fun ρ1 w1 hj hR => x_move (show ρ1 24 = Value.bool _ from hR.1)) ?_
            first | refine dx_skip (i := 8) rfl (fun ρ1 w1 hj hR => (show ρ1 25 = Value.bool _ from hR.2.1)) (by decide) ?_ | refine dx_take (i := 8) rfl (fun ρ1 w1 hj hR => (show ρ1 25 = Value.bool _ from hR.2.1)) (fun ρ1 w1 hj hR => x_move (show ρ1 1 = Value.int _ _ from hR.1)) ?_
            first | refine dx_skip (i := 9) rfl (fun ρ1 w1 hj hR => (show ρ1 25 = Value.bool _ from hR.2.1)) (by decide) ?_ | refine dx_take (i := 9) rfl (fun ρ1 w1 hj hR => (show ρ1 25 = Value.bool _ from hR.2.1)) (fun ρ1 w1 hj hR => x_lss_t (show ρ1 26 = Value.int _ _ from hR.1) rfl (by omega)) ?_ | refine dx_take (i := 9) rfl (fun ρ1 w1 hj hR => (show ρ1 25 = Value.bool _ from hR.2.1)) (fun ρ1 w1 hj hR => x_lss_f (show ρ1 26 = Value.int _ _ from hR.1) rfl (by omega)) ?_ | refine dx_take (i := 9) rfl (fun ρ1 w1 hj hR => (show ρ1 25 = Value.bool _ from hR.2.1)) (fun ρ1 w1 hj hR => x_lss_v (show ρ1 26 = Value.int _ _ from hR.1) rfl) ?_
            first | refine dx_val (i := 10) (fun ρ1 w1 hj hR => x_pick_t (show ρ1 25 = Value.bool _ from hR.1) rfl) ?_ | refine dx_val (i := 10) (fun ρ1 w1 hj hR => x_pick_f (show ρ1 25 = Value.bool _ from hR.1) (show ρ1 27 = Value.bool _ from hR.2.1)) ?_
            refine dx_val (i := 11) (fun ρ1 w1 hj hR => x_move (show ρ1 28 = Value.bool _ from hR.1)) ?_
            first | refine dx_skip (i := 12) rfl (fun ρ1 w1 hj hR => (show ρ1 29 = Value.bool _ from hR.2.1)) (by decide) ?_ | refine dx_take (i := 12) rfl (fun ρ1 w1 hj hR => (show ρ1 29 = Value.bool _ from hR.2.1)) (fun ρ1 w1 hj hR => x_move (show ρ1 0 = Value.slice _ _ _ from hR.1)) ?_
            first | refine dx_skip (i := 13) rfl (fun ρ1 w1 hj hR => (show ρ1 29 = Value.bool _ from hR.2.1)) (by decide) ?_ | refine dx_take (i := 13) rfl (fun ρ1 w1 hj hR => (show ρ1 29 = Value.bool _ from hR.2.1)) (fun ρ1 w1 hj hR => x_indexAddr UIs.out TIs.size (show ρ1 30 = Value.slice _ _ _ from hR.1) rfl (by omega) (by omega)) ?_
            first | refine dx_skip (i := 14) rfl (fun ρ1 w1 hj hR => (show ρ1 29 = Value.bool _ from hR.2.1)) (by decide) ?_ | refine dx_take (i := 14) rfl (fun ρ1 w1 hj hR => (show ρ1 29 = Value.bool _ from hR.2.1)) (fun ρ1 w1 hj hR => x_load (vs := [_, _, _]) TIs.out (show ρ1 31 = Value.pointer _ from hR.1) (trivial) rfl) ?_
            first | refine dx_skip (i := 15) rfl (fun ρ1 w1 hj hR => (show ρ1 29 = Value.bool _ from hR.2.1)) (by decide) ?_ | refine dx_take (i := 15) rfl (fun ρ1 w1 hj hR => (show ρ1 29 = Value.bool _ from hR.2.1)) (fun ρ1 w1 hj hR => x_move (show ρ1 1 = Value.int _ _ from hR.1)) ?_
            refine dx_skip (i := 16) rfl (fun ρ1 w1 hj hR => (show ρ1 29 = Value.bool _ from hR.2.2.1)) (by decide) ?_
            first | refine dx_skip (i := 17) rfl (fun ρ1 w1 hj hR => (show ρ1 29 = Value.bool _ from hR.2.1)) (by decide) ?_ | refine dx_take (i := 17) rfl (fun ρ1 w1 hj hR => (show ρ1 29 = Value.bool _ from hR.2.1)) (fun ρ1 w1 hj hR => x_move (show ρ1 0 = Value.slice _ _ _ from hR.1)) ?_
            first | refine dx_skip (i := 18) rfl (fun ρ1 w1 hj hR => (show ρ1 29 = Value.bool _ from hR.2.1)) (by decide) ?_ | refine dx_take (i := 18) rfl (fun ρ1 w1 hj hR => (show ρ1 29 = Value.bool _ from hR.2.1)) (fun ρ1 w1 hj hR => x_indexAddr UIs.out TIs.size (show ρ1 35 = Value.slice _ _ _ from hR.1) rfl (by omega) (by omega)) ?_
            first | refine dx_skip (i := 19) rfl (fun ρ1 w1 hj hR => (show ρ1 29 = Value.bool _ from hR.2.1)) (by decide) ?_ | refine dx_take (i := 19) rfl (fun ρ1 w1 hj hR => (show ρ1 29 = Value.bool _ from hR.2.1)) (fun ρ1 w1 hj hR => x_load (vs := [_, _, _]) TIs.out (show ρ1 36 = Value.pointer _ from hR.1) (trivial) rfl) ?_
            first | refine dx_skip (i := 20) rfl (fun ρ1 w1 hj hR => (show ρ1 29 = Value.bool _ from hR.2.1)) (by decide) ?_ | refine dx_take (i := 20) rfl (fun ρ1 w1 hj hR => (show ρ1 29 = Value.bool _ from hR.2.1)) (fun ρ1 w1 hj hR => x_move (show ρ1 1 = Value.int _ _ from hR.1)) ?_
            refine dx_nil ?_
            intro f W hJ hV
            have hb_5 := hJ.bl
            obtain ⟨v38, v37, v36, v35, v34, v33, v32, v31, v30, v29, v28, v27, v26, v25, v24, v23, v22, v21, v20, v19, v18, _⟩ := hV
            simp only [updL]
            have e18 : f 0 = _ := v18
            rw [e18]
            have e19 : f 1 = _ := v19
            rw [e19]
            have e20 : f 2 = _ := v20
            rw [e20]
            have e21 : f 3 = _ := v21
            rw [e21]
            have e22 : f 4 = _ := v22
            rw [e22]
            have e23 : f 5 = _ := v23
            rw [e23]
            have e24 : f 6 = _ := v24
            rw [e24]
            have e25 : f 7 = _ := v25
            rw [e25]
            have e26 : f 8 = _ := v26
            rw [e26]
            have e27 : f 9 = _ := v27
            rw [e27]
            have e28 : f 10 = _ := v28
            rw [e28]
            have e29 : f 11 = _ := v29
            rw [e29]
            have e30 : f 12 = _ := v30
            rw [e30]
            have e31 : f 13 = _ := v31
            rw [e31]
            have e32 : f 14 = _ := v32
            rw [e32]
            have e33 : f 15 = _ := v33
            rw [e33]
            have e34 : f 16 = _ := v34
            rw [e34]
            have e35 : f 17 = _ := v35
            rw [e35]
            have e36 : f 18 = _ := v36
            rw [e36]
            have e37 : f 19 = _ := v37
            rw [e37]
            have e38 : f 20 = _ := v38
            rw [e38]
            replace hh := hJ.hp
            clear e18 e19 e20 e21 e22 e23 e24 e25 e26 e27 e28 e29 e30 e31 e32 e33 e34 e35 e36 e37 e38 hJ
            refine wl_guard_skip (by decide) rfl rfl (by decide) ?_
            first | (refine wl_guard_skip (by decide) rfl rfl (by decide) ?_) | (refine wl_guard_take rfl rfl ?_; (first | refine s_eqN_t rfl rfl (by first | assumption | rfl) (by decide) ?_ | refine s_eqN_f rfl rfl (by assumption) (by decide) ?_)) | (refine wl_guard_skipV (by decide) rfl rfl ?_)
            first | refine s_pick_t rfl (ev_bool rfl) (by decide) ?_ | refine s_pick_f rfl (ev_bool rfl) (by decide) ?_
            refine s_move (ev_bool rfl) (by decide) ?_
            -- at guarded Op.call { callee := Callee.value (Operand.func 9), args := #[], argTypes := #[] 
            refine wl_guard_take rfl rfl ?_
            refine s_callf (awake_calls _ (hT.hp hh)) FnIs.out rfl (by decide) ?_
            rintro e_ w43 ⟨rfl, hb_⟩
            refine ⟨_, rfl, ?_⟩
            replace hh := hh.ext hb_
            first | refine s_pick_t rfl (ev_bool rfl) (by decide) ?_ | refine s_pick_f rfl (ev_bool rfl) (by decide) ?_
            refine s_assign (ev_bool rfl) (by decide) ?_
            refine wl_end ?_
            refine wc_ret ?_
            -- at ('end', 'ret')
            refine ret1 (by first | exact .inr rfl | exact .inl rfl) rfl (v_bool rfl) ?_
            exact ⟨rfl, hh.below⟩
          · have hmul : m.toNat * x.mag.size ≤ 10 * 20 := Nat.mul_le_mul (by omega) (by omega)
            have hdp := fun w1 hT1 => dPow_calls x m w1 hT1 (hok x hxm) (by omega) (by omega)
            have hyp := fun w1 => yPow_calls x m w1 (hok x hxm) 460 (hsz x hxm) (by omega) (by omega)
            refine calls_vc (N := 45) (l := [.slice (some ad) n c, .int .i64 m]) Tryz.func3 rfl rfl (by simp) ?_
            refine wc_seq ?_
            refine wc_region ?_
            refine s_assign (ev_bool rfl) (by decide) ?_
            refine wl_end ?_
            refine wc_seq ?_
            refine wc_seq ?_
            refine wc_region ?_
            refine s_move (ev_sl rfl) (by decide) ?_
            refine s_len_sl UIs.out rfl (by decide) ?_
            first | refine s_gtr_t rfl rfl (by omega) (by decide) ?_ | refine s_gtr_f rfl rfl (by omega) (by decide) ?_ | refine s_gtr_v rfl rfl (by decide) ?_
            refine s_move (ev_bool rfl) (by decide) ?_
            first | (refine wl_guard_skip (by decide) rfl rfl (by decide) ?_) | (refine wl_guard_take rfl rfl ?_; (refine s_move (ev_sl rfl) (by decide) ?_)) | (refine wl_guard_skipV (by decide) rfl rfl ?_)
            -- at guarded Op.call { callee := Callee.value (Operand.func 8), args := #[Operand.const (Valu
            refine wl_guard_take rfl rfl ?_
            refine s_callf (long_calls 20 300 _ n c l _ hS (by omega) (by omega) (by omega)) FnIs.out rfl (by decide) ?_
            rintro e_ w10 ⟨rfl, hb_⟩
            refine ⟨_, rfl, ?_⟩
            replace hh := hh.ext hb_
            rw [hlg]
            first | refine s_pick_t rfl (ev_bool rfl) (by decide) ?_ | refine s_pick_f rfl (ev_bool rfl) (by decide) ?_
            refine wl_end ?_
            refine wc_cond_f rfl ?_
            refine wc_skip ?_
            refine k_then ?_
            refine wc_seq ?_
            refine wc_seq ?_
            refine wc_region ?_
            refine s_move (ev_sl rfl) (by decide) ?_
            -- at some 14 := Op.call { callee := Callee.value (Operand.func 10), args := #[Operand.tmp 13], argTypes :=
            refine s_callf (hdm _ (hT.hp hh) (hS.ext hh.below)) FnIs.out rfl (by decide) ?_
            rintro e_ w14 ⟨rfl, hb_⟩
            refine ⟨_, rfl, ?_⟩
            replace hh := hh.ext hb_
            refine s_move (ev_sl rfl) (by decide) ?_
            -- at some 16 := Op.call { callee := Callee.value (Operand.func 11), args := #[Operand.tmp 15], argTypes :=
            refine s_callf (hym _ (hS.ext hh.below)) FnIs.out rfl (by decide) ?_
            rintro e_ w16 ⟨rfl, hb_⟩
            refine ⟨_, rfl, ?_⟩
            replace hh := hh.ext hb_
            first | refine s_neN_f rfl rfl (by first | assumption | rfl) (by decide) ?_ | refine s_neN_t rfl rfl (by assumption) (by decide) ?_
            refine wl_end ?_
            refine wc_cond_f rfl ?_
            refine wc_skip ?_
            refine k_then ?_
            refine wc_seq ?_
            -- at the drawn region 5
            -- 
            refine wc_drawn 21 [[(0, none)], [(18, some 0)], [(19, some 1)], [(20, some 2)], [(1, none), (21, some 3)], [(22, some 4), (21, some 3)], [(21, some 3), (23, some 5)], [(24, some 6)], [(1, none), (25, some 7)], [(26, some 8), (25, some 7)], [(25, some 7), (27, some 9)], [(28, some 10)], [(0, none), (29, some 11)], [(30, some 12), (29, some 11)], [(31, some 13), (29, some 11)], [(1, none), (29, some 11)], [(32, some 14), (33, some 15), (29, some 11)], [(0, none), (29, some 11)], [(35, some 17), (29, some 11)], [(36, some 18), (29, some 11)], [(1, none), (29, some 11)]] [(20, 38), (19, 37), (18, 36), (17, 35), (16, 34), (15, 33), (14, 32), (13, 31), (12, 30), (11, 29), (10, 28), (9, 27), (8, 26), (7, 25), (6, 24), (5, 23), (4, 22), (3, 21), (2, 20), (1, 19), (0, 18)] hh mixed (by kernel_rfl) ?_
            refine dx_val (i := 0) (fun ρ1 w1 hj hR => x_move (show ρ1 0 = Value.slice _ _ _ from hR.1)) ?_
            refine dx_val (i := 1) (fun ρ1 w1 hj hR => x_len_sl UIs.out (show ρ1 18 = Value.slice _ _ _ from hR.1)) ?_
            first | refine dx_val (i := 2) (fun ρ1 w1 hj hR => x_eql_t (show ρ1 19 = Value.int _ _ from hR.1) rfl (by omega)) ?_ | refine dx_val (i := 2) (fun ρ1 w1 hj hR => x_eql_f (show ρ1 19 = Value.int _ _ from hR.1) rfl (by omega)) ?_ | refine dx_val (i := 2) (fun ρ1 w1 hj hR => x_eql_v (show ρ1 19 = Value.int _ _ from hR.1) rfl) ?_
            refine dx_val (i := 3) (fun ρ1 w1 hj hR => x_move (show ρ1 20 = Value.bool _ from hR.1)) ?_
            first | refine dx_skip (i := 4) rfl (fun ρ1 w1 hj hR => (show ρ1 21 = Value.bool _ from hR.2.1)) (by decide) ?_ | refine dx_take (i := 4) rfl (fun ρ1 w1 hj hR => (show ρ1 21 = Value.bool _ from hR.2.1)) (fun ρ1 w1 hj hR => x_move (show ρ1 1 = Value.int _ _ from hR.1)) ?_
            first | refine dx_skip (i := 5) rfl (fun ρ1 w1 hj hR => (show ρ1 21 = Value.bool _ from hR.2.1)) (by decide) ?_ | refine dx_take (i := 5) rfl (fun ρ1 w1 hj hR => (show ρ1 21 = Value.bool _ from hR.2.1)) (fun ρ1 w1 hj hR => x_gtr_t (show ρ1 22 = Value.int _ _ from hR.1) rfl (by omega)) ?_ | refine dx_take (i := 5) rfl (fun ρ1 w1 hj hR => (show ρ1 21 = Value.bool _ from hR.2.1)) (fun ρ1 w1 hj hR => x_gtr_f (show ρ1 22 = Value.int _ _ from hR.1) rfl (by omega)) ?_ | refine dx_take (i := 5) rfl (fun ρ1 w1 hj hR => (show ρ1 21 = Value.bool _ from hR.2.1)) (fun ρ1 w1 hj hR => x_gtr_v (show ρ1 22 = Value.int _ _ from hR.1) rfl) ?_
            first | refine dx_val (i := 6) (fun ρ1 w1 hj hR => x_pick_t (show ρ1 21 = Value.bool _ from hR.1) rfl) ?_ | refine dx_val (i := 6) (fun ρ1 w1 hj hR => x_pick_f (show ρ1 21 = Value.bool _ from hR.1) (show ρ1 23 = Value.bool _ from hR.2.1)) ?_
            refine dx_val (i := 7) (fun ρ1 w1 hj hR => x_move (show ρ1 24 = Value.bool _ from hR.1)) ?_
            first | refine dx_skip (i := 8) rfl (fun ρ1 w1 hj hR => (show ρ1 25 = Value.bool _ from hR.2.1)) (by decide) ?_ | refine dx_take (i := 8) rfl (fun ρ1 w1 hj hR => (show ρ1 25 = Value.bool _ from hR.2.1)) (fun ρ1 w1 hj hR => x_move (show ρ1 1 = Value.int _ _ from hR.1)) ?_
            first | refine dx_skip (i := 9) rfl (fun ρ1 w1 hj hR => (show ρ1 25 = Value.bool _ from hR.2.1)) (by decide) ?_ | refine dx_take (i := 9) rfl (fun ρ1 w1 hj hR => (show ρ1 25 = Value.bool _ from hR.2.1)) (fun ρ1 w1 hj hR => x_lss_t (show ρ1 26 = Value.int _ _ from hR.1) rfl (by omega)) ?_ | refine dx_take (i := 9) rfl (fun ρ1 w1 hj hR => (show ρ1 25 = Value.bool _ from hR.2.1)) (fun ρ1 w1 hj hR => x_lss_f (show ρ1 26 = Value.int _ _ from hR.1) rfl (by omega)) ?_ | refine dx_take (i := 9) rfl (fun ρ1 w1 hj hR => (show ρ1 25 = Value.bool _ from hR.2.1)) (fun ρ1 w1 hj hR => x_lss_v (show ρ1 26 = Value.int _ _ from hR.1) rfl) ?_
            first | refine dx_val (i := 10) (fun ρ1 w1 hj hR => x_pick_t (show ρ1 25 = Value.bool _ from hR.1) rfl) ?_ | refine dx_val (i := 10) (fun ρ1 w1 hj hR => x_pick_f (show ρ1 25 = Value.bool _ from hR.1) (show ρ1 27 = Value.bool _ from hR.2.1)) ?_
            refine dx_val (i := 11) (fun ρ1 w1 hj hR => x_move (show ρ1 28 = Value.bool _ from hR.1)) ?_
            first | refine dx_skip (i := 12) rfl (fun ρ1 w1 hj hR => (show ρ1 29 = Value.bool _ from hR.2.1)) (by decide) ?_ | refine dx_take (i := 12) rfl (fun ρ1 w1 hj hR => (show ρ1 29 = Value.bool _ from hR.2.1)) (fun ρ1 w1 hj hR => x_move (show ρ1 0 = Value.slice _ _ _ from hR.1)) ?_
            first | refine dx_skip (i := 13) rfl (fun ρ1 w1 hj hR => (show ρ1 29 = Value.bool _ from hR.2.1)) (by decide) ?_ | refine dx_take (i := 13) rfl (fun ρ1 w1 hj hR => (show ρ1 29 = Value.bool _ from hR.2.1)) (fun ρ1 w1 hj hR => x_indexSl (k := 0) UIs.out TIs.size (show ρ1 30 = Value.slice _ _ _ from hR.1) rfl (by omega) (by omega)) ?_
            first | refine dx_skip (i := 14) rfl (fun ρ1 w1 hj hR => (show ρ1 29 = Value.bool _ from hR.2.1)) (by decide) ?_ | refine dx_take (i := 14) rfl (fun ρ1 w1 hj hR => (show ρ1 29 = Value.bool _ from hR.2.1)) (fun ρ1 w1 hj hR => x_load (vs := [_, _, _]) TIs.out (show ρ1 31 = Value.pointer _ from hR.1) ((hr.ext hj.hp.below).recAt NR.len hx) rfl) ?_
            first | refine dx_skip (i := 15) rfl (fun ρ1 w1 hj hR => (show ρ1 29 = Value.bool _ from hR.2.1)) (by decide) ?_ | refine dx_take (i := 15) rfl (fun ρ1 w1 hj hR => (show ρ1 29 = Value.bool _ from hR.2.1)) (fun ρ1 w1 hj hR => x_move (show ρ1 1 = Value.int _ _ from hR.1)) ?_
            refine dx_take_call (i := 16) rfl (fun ρ1 w1 hj hR => (show ρ1 29 = Value.bool _ from hR.2.2.1)) (fun ρ1 w1 hj hR => run_callf FnIs.out (evs_cons (show ρ1 32 = Value.agg (List.toArray _) from hR.1) (evs_cons (show ρ1 33 = Value.int _ _ from hR.2.1) evs_nil))) (fun w1 hj => hdp _ (hT.hp hj.hp)) ?_
            first | refine dx_skip (i := 17) rfl (fun ρ1 w1 hj hR => (show ρ1 29 = Value.bool _ from hR.2.1)) (by decide) ?_ | refine dx_take (i := 17) rfl (fun ρ1 w1 hj hR => (show ρ1 29 = Value.bool _ from hR.2.1)) (fun ρ1 w1 hj hR => x_move (show ρ1 0 = Value.slice _ _ _ from hR.1)) ?_
            first | refine dx_skip (i := 18) rfl (fun ρ1 w1 hj hR => (show ρ1 29 = Value.bool _ from hR.2.1)) (by decide) ?_ | refine dx_take (i := 18) rfl (fun ρ1 w1 hj hR => (show ρ1 29 = Value.bool _ from hR.2.1)) (fun ρ1 w1 hj hR => x_indexSl (k := 0) UIs.out TIs.size (show ρ1 35 = Value.slice _ _ _ from hR.1) rfl (by omega) (by omega)) ?_
            first | refine dx_skip (i := 19) rfl (fun ρ1 w1 hj hR => (show ρ1 29 = Value.bool _ from hR.2.1)) (by decide) ?_ | refine dx_take (i := 19) rfl (fun ρ1 w1 hj hR => (show ρ1 29 = Value.bool _ from hR.2.1)) (fun ρ1 w1 hj hR => x_load (vs := [_, _, _]) TIs.out (show ρ1 36 = Value.pointer _ from hR.1) ((hr.ext hj.hp.below).recAt NR.len hx) rfl) ?_
            first | refine dx_skip (i := 20) rfl (fun ρ1 w1 hj hR => (show ρ1 29 = Value.bool _ from hR.2.1)) (by decide) ?_ | refine dx_take (i := 20) rfl (fun ρ1 w1 hj hR => (show ρ1 29 = Value.bool _ from hR.2.1)) (fun ρ1 w1 hj hR => x_move (show ρ1 1 = Value.int _ _ from hR.1)) ?_
            refine dx_nil ?_
            intro f W hJ hV
            have hb_5 := hJ.bl
            obtain ⟨v38, v37, v36, v35, v34, v33, v32, v31, v30, v29, v28, v27, v26, v25, v24, v23, v22, v21, v20, v19, v18, _⟩ := hV
            simp only [updL]
            have e18 : f 0 = _ := v18
            rw [e18]
            have e19 : f 1 = _ := v19
            rw [e19]
            have e20 : f 2 = _ := v20
            rw [e20]
            have e21 : f 3 = _ := v21
            rw [e21]
            have e22 : f 4 = _ := v22
            rw [e22]
            have e23 : f 5 = _ := v23
            rw [e23]
            have e24 : f 6 = _ := v24
            rw [e24]
            have e25 : f 7 = _ := v25
            rw [e25]
            have e26 : f 8 = _ := v26
            rw [e26]
            have e27 : f 9 = _ := v27
            rw [e27]
            have e28 : f 10 = _ := v28
            rw [e28]
            have e29 : f 11 = _ := v29
            rw [e29]
            have e30 : f 12 = _ := v30
            rw [e30]
            have e31 : f 13 = _ := v31
            rw [e31]
            have e32 : f 14 = _ := v32
            rw [e32]
            have e33 : f 15 = _ := v33
            rw [e33]
            have e34 : f 16 = _ := v34
            rw [e34]
            have e35 : f 17 = _ := v35
            rw [e35]
            have e36 : f 18 = _ := v36
            rw [e36]
            have e37 : f 19 = _ := v37
            rw [e37]
            have e38 : f 20 = _ := v38
            rw [e38]
            replace hh := hJ.hp
            clear e18 e19 e20 e21 e22 e23 e24 e25 e26 e27 e28 e29 e30 e31 e32 e33 e34 e35 e36 e37 e38 hJ
            -- at guarded Op.call { callee := Callee.value (Operand.func 13), args := #[Operand.tmp 37, Op
            refine wl_guard_take rfl rfl ?_
            refine s_callf (hyp _) FnIs.out rfl (by decide) ?_
            rintro e_ w39 ⟨rfl, hb_⟩
            refine ⟨_, rfl, ?_⟩
            replace hh := hh.ext hb_
            first | (refine wl_guard_skip (by decide) rfl rfl (by decide) ?_) | (refine wl_guard_take rfl rfl ?_; (first | refine s_eqN_t rfl rfl (by first | assumption | rfl) (by decide) ?_ | refine s_eqN_f rfl rfl (by assumption) (by decide) ?_)) | (refine wl_guard_skipV (by decide) rfl rfl ?_)
            first | refine s_pick_t rfl (ev_bool rfl) (by decide) ?_ | refine s_pick_f rfl (ev_bool rfl) (by decide) ?_
            refine s_move (ev_bool rfl) (by decide) ?_
            -- at guarded Op.call { callee := Callee.value (Operand.func 9), args := #[], argTypes := #[] 
            refine wl_guard_take rfl rfl ?_
            refine s_callf (awake_calls _ (hT.hp hh)) FnIs.out rfl (by decide) ?_
            rintro e_ w43 ⟨rfl, hb_⟩
            refine ⟨_, rfl, ?_⟩
            replace hh := hh.ext hb_
            first | refine s_pick_t rfl (ev_bool rfl) (by decide) ?_ | refine s_pick_f rfl (ev_bool rfl) (by decide) ?_
            refine s_assign (ev_bool rfl) (by decide) ?_
            refine wl_end ?_
            refine wc_ret ?_
            -- at ('end', 'ret')
            refine ret1 (by first | exact .inr rfl | exact .inl rfl) rfl (v_bool rfl) ?_
            exact ⟨rfl, hh.below⟩
end Go.Proofs.YtgljgalcbbjfgaaGreatDoor
