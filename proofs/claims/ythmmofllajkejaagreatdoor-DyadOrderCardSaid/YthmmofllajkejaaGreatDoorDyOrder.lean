/- The walk through the law DyadOrder. -/
import Derived.Test.YthmmofllajkejaaGreatDoorDyMuls
import Derived.Test.YthmmofllajkejaaGreatDoorOpsP
import Derived.Test.YthmmofllajkejaaGreatDoorCmpD
namespace Go.Proofs.YthmmofllajkejaaGreatDoor
open Go.RowKit
-- umode
-- cast
theorem add2 (u v : NR) (V : Dyadic) (hV : u.d + v.d = V) (hu : u.ok) (hv : v.ok) (ku : Sz 12000 u.d) (kv : Sz 12000 v.d) (A : Option Addr) (c : Nat) (w : World) (hT : Tab w) (hS : Sl w A 2 3 (recs NR.cells [u, v])) :
    Calls Tryz.prog 15 #[.slice A 2 c] w fun r w' => r = .returned (.agg #[.bool (nR (V)).neg, .string (nR (V)).mag, .int .i64 (nR (V)).e]) ∧ Below w.heap.size w w' := by
  have := dAdd_calls A 2 c [u, v] w hT hS (by simpa using ⟨hu, hv⟩) 12000 (by simpa using ⟨ku, kv⟩) (by omega)
  rw [show sumD ([u, v].map NR.d) = V by rw [← hV, List.map_cons, List.map_cons, List.map_nil, sumD_two]] at this
  exact this
theorem mul2 (u v : NR) (V : Dyadic) (hV : u.d * v.d = V) (hu : u.ok) (hv : v.ok) (ku : Sz 12000 u.d) (kv : Sz 12000 v.d) (A : Option Addr) (c : Nat) (w : World) (hT : Tab w) (hS : Sl w A 2 3 (recs NR.cells [u, v])) :
    Calls Tryz.prog 18 #[.slice A 2 c] w fun r w' => r = .returned (.agg #[.bool (nR (V)).neg, .string (nR (V)).mag, .int .i64 (nR (V)).e]) ∧ Below w.heap.size w w' := by
  have := dMul_calls A 2 c [u, v] w hT hS (by simpa using ⟨hu, hv⟩) 12000 (by simpa using ⟨ku, kv⟩) (by omega) (by omega)
  rw [show prodD ([u, v].map NR.d) = V by rw [← hV]; show 1 * u.d * v.d = _; rw [Dyadic.one_mul]] at this
  exact this
theorem dyadOrder_calls (a b c : NR) (w : World) (hT : Tab w) :
    Calls Tryz.prog 3 #[.agg #[.bool a.neg, .string a.mag, .int .i64 a.e], .agg #[.bool b.neg, .string b.mag, .int .i64 b.e], .agg #[.bool c.neg, .string c.mag, .int .i64 c.e]] w fun r w' => r = .returned (.bool true) ∧ Below w.heap.size w w' := by
  have hh := Hp.start w
  cases hlg : longB 150 500 [a, b, c] with
  | true =>
    refine calls_vc (N := 131) (l := [.agg #[.bool a.neg, .string a.mag, .int .i64 a.e], .agg #[.bool b.neg, .string b.mag, .int .i64 b.e], .agg #[.bool c.neg, .string c.mag, .int .i64 c.e]]) Tryz.func3 rfl rfl (by simp) ?_
    refine wc_seq ?_
    refine wc_region ?_
    refine wl_box hh (cs := [_, _, _]) rfl rfl (by decide) ?_
    intro b3 w3 hh
    refine wl_box hh (cs := [_, _, _]) rfl rfl (by decide) ?_
    intro b4 w4 hh
    refine wl_box hh (cs := [_, _, _]) rfl rfl (by decide) ?_
    intro b5 w5 hh
    refine s_assign (ev_bool rfl) (by decide) ?_
    refine wl_end ?_
    refine wc_seq ?_
    refine wc_seq ?_
    refine wc_region ?_
    refine s_load (vs := [_, _, _]) TIs.out rfl (hh.rd_blk_at (i := 2) (n := 3) rfl rfl) rfl (by decide) ?_
    refine s_load (vs := [_, _, _]) TIs.out rfl (hh.rd_blk_at (i := 1) (n := 3) rfl rfl) rfl (by decide) ?_
    refine s_load (vs := [_, _, _]) TIs.out rfl (hh.rd_blk_at (i := 0) (n := 3) rfl rfl) rfl (by decide) ?_
    refine wl_buildSlice hh (cs := [_, _, _, _, _, _, _, _, _]) UIs.out TIs.out (evp_cons (ev_agg rfl) (evp_cons (ev_agg rfl) (evp_cons (ev_agg rfl) evp_nil))) rfl rfl (by decide) (by decide) (by decide) rfl (by decide) ?_
    intro b18 w18 hh
    -- at some 19 := Op.call { callee := Callee.value (Operand.func 11), args := #[Operand.const (Value.int Int
    refine s_callf (long_calls 150 500 _ 3 _ [a, b, c] _ (hh.sl_row (i := 0) rfl) (by omega) (by omega) (by omega)) FnIs.out rfl (by decide) ?_
    rintro e_ w19 ⟨rfl, hb_⟩
    refine ⟨_, rfl, ?_⟩
    replace hh := hh.ext hb_
    rw [hlg]
    refine wl_end ?_
    refine wc_cond_t rfl ?_
    refine wc_seq ?_
    refine wc_region ?_
    -- at some 20 := Op.call { callee := Callee.value (Operand.func 12), args := #[], argTypes := #[] }
    refine s_callf (awake_calls _ (hT.hp hh)) FnIs.out rfl (by decide) ?_
    rintro e_ w20 ⟨rfl, hb_⟩
    refine ⟨_, rfl, ?_⟩
    replace hh := hh.ext hb_
    refine s_assign (ev_bool rfl) (by decide) ?_
    refine wl_end ?_
    refine wc_ret ?_
    refine k_ret ?_
    -- at ('end', 'ret')
    refine ret1 (by first | exact .inr rfl | exact .inl rfl) rfl (v_bool rfl) ?_
    exact ⟨rfl, hh.below⟩
  | false =>
    have hsa := short hlg a (by simp)
    have hsb := short hlg b (by simp)
    have hsc := short hlg c (by simp)
    have ka0 : Sz 1700 a.d := short_sz (most := 150) (far := 500) hsa
    have kb0 : Sz 1700 b.d := short_sz (most := 150) (far := 500) hsb
    have kc0 : Sz 1700 c.d := short_sz (most := 150) (far := 500) hsc
    have oa : a.ok := ⟨by omega, by omega, by omega⟩
    have ob : b.ok := ⟨by omega, by omega, by omega⟩
    have oc : c.ok := ⟨by omega, by omega, by omega⟩
    have ka : Sz 12000 a.d := ka0.mono (by omega)
    have kb : Sz 12000 b.d := kb0.mono (by omega)
    have kc : Sz 12000 c.d := kc0.mono (by omega)
    have g : ∀ {x : Dyadic}, Sz 12000 x → Sz 12000 (nR x).d := fun h => by rw [nR_d]; exact h
    have kt : Sz 9 (twoD (-1)) := Sz.two (k := 1) (by omega) (by omega)
    have k1 : Sz 12000 (a.d + b.d) := (ka0.add kb0).mono (by omega)
    have k2 : Sz 12000 (a.d + c.d) := (ka0.add kc0).mono (by omega)
    have k3 : Sz 12000 (b.d + c.d) := (kb0.add kc0).mono (by omega)
    have k4 : Sz 12000 (a.d * c.d) := (ka0.mul kc0).mono (by omega)
    have k5 : Sz 12000 (b.d * c.d) := (kb0.mul kc0).mono (by omega)
    have k6 : Sz 12000 ((a.d + b.d) * twoD (-1)) := ((ka0.add kb0).mul kt).mono (by omega)
    have o : ∀ {x : Dyadic}, Sz 12000 x → (nR x).ok := fun h => h.ok (by omega)
    have q1 : ∀ w1, Tab w1 → Calls Tryz.prog 13 #[.agg #[.bool b.neg, .string b.mag, .int .i64 b.e], .agg #[.bool a.neg, .string a.mag, .int .i64 a.e]] w1 fun r w' => r = .returned (.int .i64 (-(cmpD a.d b.d))) ∧ Below w1.heap.size w1 w' := fun w1 hT1 => by
      have := dCmp_calls b a w1 hT1 ob oa
      try simp only [nR_d] at this
      rw [cmpD_swap] at this
      exact this
    have q2 : ∀ w1, Tab w1 → Calls Tryz.prog 13 #[.agg #[.bool (nR (a.d + c.d)).neg, .string (nR (a.d + c.d)).mag, .int .i64 (nR (a.d + c.d)).e], .agg #[.bool (nR (b.d + c.d)).neg, .string (nR (b.d + c.d)).mag, .int .i64 (nR (b.d + c.d)).e]] w1 fun r w' => r = .returned (.int .i64 (cmpD a.d b.d)) ∧ Below w1.heap.size w1 w' := fun w1 hT1 => by
      have := dCmp_calls (nR (a.d + c.d)) (nR (b.d + c.d)) w1 hT1 (o k2) (o k3)
      try simp only [nR_d] at this
      rw [cmpD_add] at this
      exact this
    have q3 : ∀ w1, Tab w1 → Calls Tryz.prog 13 #[.agg #[.bool (nR (a.d * c.d)).neg, .string (nR (a.d * c.d)).mag, .int .i64 (nR (a.d * c.d)).e], .agg #[.bool (nR (b.d * c.d)).neg, .string (nR (b.d * c.d)).mag, .int .i64 (nR (b.d * c.d)).e]] w1 fun r w' => r = .returned (.int .i64 (cmpD a.d b.d * cmpD c.d 0)) ∧ Below w1.heap.size w1 w' := fun w1 hT1 => by
      have := dCmp_calls (nR (a.d * c.d)) (nR (b.d * c.d)) w1 hT1 (o k4) (o k5)
      try simp only [nR_d] at this
      rw [cmpD_mul] at this
      exact this
    have q4 : ∀ w1, Tab w1 → Calls Tryz.prog 13 #[.agg #[.bool a.neg, .string a.mag, .int .i64 a.e], .agg #[.bool (nR ((a.d + b.d) * twoD (-1))).neg, .string (nR ((a.d + b.d) * twoD (-1))).mag, .int .i64 (nR ((a.d + b.d) * twoD (-1))).e]] w1 fun r w' => r = .returned (.int .i64 (cmpD a.d b.d)) ∧ Below w1.heap.size w1 w' := fun w1 hT1 => by
      have := dCmp_calls a (nR ((a.d + b.d) * twoD (-1))) w1 hT1 oa (o k6)
      try simp only [nR_d] at this
      rw [cmpD_mid1] at this
      exact this
    have q5 : ∀ w1, Tab w1 → Calls Tryz.prog 13 #[.agg #[.bool (nR ((a.d + b.d) * twoD (-1))).neg, .string (nR ((a.d + b.d) * twoD (-1))).mag, .int .i64 (nR ((a.d + b.d) * twoD (-1))).e], .agg #[.bool b.neg, .string b.mag, .int .i64 b.e]] w1 fun r w' => r = .returned (.int .i64 (cmpD a.d b.d)) ∧ Below w1.heap.size w1 w' := fun w1 hT1 => by
      have := dCmp_calls (nR ((a.d + b.d) * twoD (-1))) b w1 hT1 (o k6) ob
      try simp only [nR_d] at this
      rw [cmpD_mid2] at this
      exact this
    have q6 : ∀ w1, Calls Tryz.prog 19 #[.agg #[.bool c.neg, .string c.mag, .int .i64 c.e]] w1 fun r w' => r = .returned (.int .i64 (cmpD c.d 0)) ∧ Below w1.heap.size w1 w' := fun w1 => by
      have := dSign_calls c w1
      rw [NR.sign] at this
      exact this
    have q0 := fun w1 hT1 => dCmp_calls a b w1 hT1 oa ob
    have hsh := fun w1 hT1 => dShift_calls (nR (a.d + b.d)) (-1) w1 hT1 (by have := (o k1).1; omega) (by have := (o k1).2; omega) (by have := (o k1).2; omega) (by omega) (by omega)
    rw [nR_d] at hsh
    have hmn := fun A c1 w1 hT1 hS1 => dMin_calls A 3 c1 [a, b, c] w1 hT1 hS1 (by simpa using ⟨oa, ob, oc⟩) (by omega)
    have hmx := fun A c1 w1 hT1 hS1 => dMax_calls A 3 c1 [a, b, c] w1 hT1 hS1 (by simpa using ⟨oa, ob, oc⟩) (by omega)
    obtain ⟨lo1, lo2⟩ := best_lo a.d b.d c.d
    obtain ⟨hi1, hi2⟩ := best_hi a.d b.d c.d
    simp only [List.map_cons, List.map_nil] at hmn hmx
    generalize bestD (fun x y => decide (x < y)) [a.d, b.d, c.d] = LO at *
    generalize bestD (fun x y => decide (y < x)) [a.d, b.d, c.d] = HI at *
    have hO := cmpD_bd a.d b.d
    have hP := cmpD_bd (a.d * c.d) (b.d * c.d)
    rw [cmpD_mul] at hP
    have hfa := fun w1 hT1 => dForm_calls a w1 hT1 (by omega) (by omega) (by omega)
    have hfb := fun w1 hT1 => dForm_calls b w1 hT1 (by omega) (by omega) (by omega)
    have hfc := fun w1 hT1 => dForm_calls c w1 hT1 (by omega) (by omega) (by omega)
    generalize cmpD a.d b.d = O at *
    generalize cmpD c.d 0 = T at *
    have oLO : (nR LO).ok := by
      simp only [List.mem_cons, List.not_mem_nil, or_false] at lo1
      rcases lo1 with rfl | rfl | rfl
      · exact (ka.ok (by omega))
      · exact (kb.ok (by omega))
      · exact (kc.ok (by omega))
    have oHI : (nR HI).ok := by
      simp only [List.mem_cons, List.not_mem_nil, or_false] at hi1
      rcases hi1 with rfl | rfl | rfl
      · exact (ka.ok (by omega))
      · exact (kb.ok (by omega))
      · exact (kc.ok (by omega))
    refine calls_vc (N := 131) (l := [.agg #[.bool a.neg, .string a.mag, .int .i64 a.e], .agg #[.bool b.neg, .string b.mag, .int .i64 b.e], .agg #[.bool c.neg, .string c.mag, .int .i64 c.e]]) Tryz.func3 rfl rfl (by simp) ?_
    refine wc_seq ?_
    refine wc_region ?_
    refine wl_box hh (cs := [_, _, _]) rfl rfl (by decide) ?_
    intro b3 w3 hh
    refine wl_box hh (cs := [_, _, _]) rfl rfl (by decide) ?_
    intro b4 w4 hh
    refine wl_box hh (cs := [_, _, _]) rfl rfl (by decide) ?_
    intro b5 w5 hh
    refine s_assign (ev_bool rfl) (by decide) ?_
    refine wl_end ?_
    refine wc_seq ?_
    refine wc_seq ?_
    refine wc_region ?_
    refine s_load (vs := [_, _, _]) TIs.out rfl (hh.rd_blk_at (i := 2) (n := 3) rfl rfl) rfl (by decide) ?_
    refine s_load (vs := [_, _, _]) TIs.out rfl (hh.rd_blk_at (i := 1) (n := 3) rfl rfl) rfl (by decide) ?_
    refine s_load (vs := [_, _, _]) TIs.out rfl (hh.rd_blk_at (i := 0) (n := 3) rfl rfl) rfl (by decide) ?_
    refine wl_buildSlice hh (cs := [_, _, _, _, _, _, _, _, _]) UIs.out TIs.out (evp_cons (ev_agg rfl) (evp_cons (ev_agg rfl) (evp_cons (ev_agg rfl) evp_nil))) rfl rfl (by decide) (by decide) (by decide) rfl (by decide) ?_
    intro b18 w18 hh
    -- at some 19 := Op.call { callee := Callee.value (Operand.func 11), args := #[Operand.const (Value.int Int
    refine s_callf (long_calls 150 500 _ 3 _ [a, b, c] _ (hh.sl_row (i := 0) rfl) (by omega) (by omega) (by omega)) FnIs.out rfl (by decide) ?_
    rintro e_ w19 ⟨rfl, hb_⟩
    refine ⟨_, rfl, ?_⟩
    replace hh := hh.ext hb_
    rw [hlg]
    refine wl_end ?_
    refine wc_cond_f rfl ?_
    refine wc_skip ?_
    refine k_then ?_
    refine wc_seq ?_
    refine wc_region ?_
    refine s_load (vs := [_, _, _]) TIs.out rfl (hh.rd_blk_at (i := 3) (n := 3) rfl rfl) rfl (by decide) ?_
    refine s_load (vs := [_, _, _]) TIs.out rfl (hh.rd_blk_at (i := 2) (n := 3) rfl rfl) rfl (by decide) ?_
    -- at some 23 := Op.call { callee := Callee.value (Operand.func 13), args := #[Operand.tmp 21, Operand.tmp 
    refine s_callf (q0 _ (hT.hp hh)) FnIs.out rfl (by decide) ?_
    rintro e_ w23 ⟨rfl, hb_⟩
    refine ⟨_, rfl, ?_⟩
    replace hh := hh.ext hb_
    refine s_assign (ev_int rfl) (by decide) ?_
    refine wl_end ?_
    refine wc_seq ?_
    refine wc_region ?_
    refine s_load (vs := [_, _, _]) TIs.out rfl (hh.rd_blk_at (i := 3) (n := 3) rfl rfl) rfl (by decide) ?_
    refine s_load (vs := [_, _, _]) TIs.out rfl (hh.rd_blk_at (i := 2) (n := 3) rfl rfl) rfl (by decide) ?_
    refine wl_buildSlice hh (cs := [_, _, _, _, _, _]) UIs.out TIs.out (evp_cons (ev_agg rfl) (evp_cons (ev_agg rfl) evp_nil)) rfl rfl (by decide) (by decide) (by decide) rfl (by decide) ?_
    intro b26 w26 hh
    -- at some 27 := Op.call { callee := Callee.value (Operand.func 15), args := #[Operand.tmp 26], argTypes :=
    refine s_callf (add2 a b (a.d + b.d) rfl oa ob ka kb _ _ _ (hT.hp hh) (hh.sl_row (i := 0) rfl)) FnIs.out rfl (by decide) ?_
    rintro e_ w27 ⟨rfl, hb_⟩
    refine ⟨_, rfl, ?_⟩
    replace hh := hh.ext hb_
    -- at some 28 := Op.call { callee := Callee.value (Operand.func 14), args := #[Operand.tmp 27, Operand.cons
    refine s_callf (hsh _ (hT.hp hh)) FnIs.out rfl (by decide) ?_
    rintro e_ w28 ⟨rfl, hb_⟩
    refine ⟨_, rfl, ?_⟩
    replace hh := hh.ext hb_
    refine wl_alloc hh TIs.out (by decide) ?_
    intro b8 w8 hh
    refine wl_store hh (i := 0) (vs := [_, _, _]) rfl rfl rfl rfl TIs.out rfl (by simp) rfl ?_
    intro ws hh
    replace hh : Hp _ (.blk _ _ [_, _, _] _ :: _) _ := hh
    refine wl_end ?_
    refine wc_seq ?_
    -- at the drawn region 5
    refine wc_drawn2 [10, 11] [] [0, 0, 0, 7, 15, 0, 0, 0, 224, 511, 0, 0, 4095, 8191] 12 [[(3, none)], [(4, none)], [(5, none)], [(29, some 0), (30, some 1), (31, some 2)], [(32, some 3)], [(3, none)], [(4, none)], [(5, none)], [(34, some 5), (35, some 6), (36, some 7)], [(37, some 8)], [], []] [(11, 10), (10, 9), (9, 38), (8, 37), (7, 36), (6, 35), (5, 34), (4, 33), (3, 32), (2, 31), (1, 30), (0, 29)] hh mixed (by kernel_rfl) (alok_cons rfl TIs.out (alok_cons rfl TIs.out alok_nil)) rfl (by repeat (first | exact np_ret | refine np_then ?_ | refine np_blk ?_)) ?_
    refine dx_val (i := 0) (fun ρ1 w1 hj hR => x_load (vs := [_, _, _]) TIs.out (show ρ1 3 = Value.pointer _ from hR.1) (hj.hp.rd_blk_at (i := 5) (n := 3) rfl rfl) rfl) ?_
    refine dx_val (i := 1) (fun ρ1 w1 hj hR => x_load (vs := [_, _, _]) TIs.out (show ρ1 4 = Value.pointer _ from hR.1) (hj.hp.rd_blk_at (i := 4) (n := 3) rfl rfl) rfl) ?_
    refine dx_val (i := 2) (fun ρ1 w1 hj hR => x_load (vs := [_, _, _]) TIs.out (show ρ1 5 = Value.pointer _ from hR.1) (hj.hp.rd_blk_at (i := 3) (n := 3) rfl rfl) rfl) ?_
    refine dx_buildSlice (i := 3) (cs := [_, _, _, _, _, _, _, _, _]) UIs.out TIs.out (fun ρ1 w1 hj hR => (evp_cons (show ρ1 29 = Value.agg (List.toArray _) from hR.1) (evp_cons (show ρ1 30 = Value.agg (List.toArray _) from hR.2.1) (evp_cons (show ρ1 31 = Value.agg (List.toArray _) from hR.2.2.1) evp_nil)))) rfl rfl (by decide) (by decide) rfl ?_
    refine dx_gen (i := 4) (Is (.agg #[.bool (nR (LO)).neg, .string (nR (LO)).mag, .int .i64 (nR (LO)).e])) Is.ext ?_ ?_
    · intro ρ1 w1 hj hR
      obtain ⟨A32, c32, h32, s32⟩ := hR.1
      exact og_enter rfl (run_callf FnIs.out (evs_cons h32 evs_nil)) (hmn A32 c32 _ (hT.hp hj.hp) s32) (fun _ _ hq => ⟨_, hq.1, hq.2, rfl⟩)
    refine dx_val (i := 5) (fun ρ1 w1 hj hR => x_load (vs := [_, _, _]) TIs.out (show ρ1 3 = Value.pointer _ from hR.1) (hj.hp.rd_blk_at (i := 5) (n := 3) rfl rfl) rfl) ?_
    refine dx_val (i := 6) (fun ρ1 w1 hj hR => x_load (vs := [_, _, _]) TIs.out (show ρ1 4 = Value.pointer _ from hR.1) (hj.hp.rd_blk_at (i := 4) (n := 3) rfl rfl) rfl) ?_
    refine dx_val (i := 7) (fun ρ1 w1 hj hR => x_load (vs := [_, _, _]) TIs.out (show ρ1 5 = Value.pointer _ from hR.1) (hj.hp.rd_blk_at (i := 3) (n := 3) rfl rfl) rfl) ?_
    refine dx_buildSlice (i := 8) (cs := [_, _, _, _, _, _, _, _, _]) UIs.out TIs.out (fun ρ1 w1 hj hR => (evp_cons (show ρ1 34 = Value.agg (List.toArray _) from hR.1) (evp_cons (show ρ1 35 = Value.agg (List.toArray _) from hR.2.1) (evp_cons (show ρ1 36 = Value.agg (List.toArray _) from hR.2.2.1) evp_nil)))) rfl rfl (by decide) (by decide) rfl ?_
    refine dx_gen (i := 9) (Is (.agg #[.bool (nR (HI)).neg, .string (nR (HI)).mag, .int .i64 (nR (HI)).e])) Is.ext ?_ ?_
    · intro ρ1 w1 hj hR
      obtain ⟨A37, c37, h37, s37⟩ := hR.1
      exact og_enter rfl (run_callf FnIs.out (evs_cons h37 evs_nil)) (hmx A37 c37 _ (hT.hp hj.hp) s37) (fun _ _ hq => ⟨_, hq.1, hq.2, rfl⟩)
    refine dx_gen (i := 10) (NewVar _ 25 _) NewVar.ext (fun ρ1 w1 hj hR => og_alloc TIs.out hj.bl (fun v w2 h hb => ⟨hb, h⟩)) ?_
    refine dx_gen (i := 11) (NewVar _ 25 _) NewVar.ext (fun ρ1 w1 hj hR => og_alloc TIs.out hj.bl (fun v w2 h hb => ⟨hb, h⟩)) ?_
    refine dx_nil ?_
    intro f W hJ hV hD
    have hb_5 := hJ.bl
    obtain ⟨v10, v9, v38, v37, v36, v35, v34, v33, v32, v31, v30, v29, _⟩ := hV
    have e29 : f 0 = _ := v29
    have e30 : f 1 = _ := v30
    have e31 : f 2 = _ := v31
    obtain ⟨A32, c32, e32, f32⟩ : Rows _ _ _ (f 3) W := v32
    have e33 : f 4 = _ := v33
    have e34 : f 5 = _ := v34
    have e35 : f 6 = _ := v35
    have e36 : f 7 = _ := v36
    obtain ⟨A37, c37, e37, f37⟩ : Rows _ _ _ (f 8) W := v37
    have e38 : f 9 = _ := v38
    obtain ⟨b9, e9, hl9, hc9⟩ : NewVar _ _ _ (f 10) W := v9
    obtain ⟨b10, e10, hl10, hc10⟩ : NewVar _ _ _ (f 11) W := v10
    have hne := ptr_ne hD (i := 10) (j := 11) (by decide) (by decide) (by decide) e9 e10
    replace hh := hJ.newVar2 hh hl9 hc9 hl10 hc10 hne
    clear hD hne
    refine wl_cast (updL_K (eql_cons e10 (eql_cons e9 (eql_cons e38 (eql_cons e37 (eql_cons e36 (eql_cons e35 (eql_cons e34 (eql_cons e33 (eql_cons e32 (eql_cons e31 (eql_cons e30 (eql_cons e29 eql_nil))))))))))))) ?_
    dsimp only [updK]
    clear e29 e30 e31 e32 e33 e34 e35 e36 e37 e38 e9 e10 hJ
    refine wl_store hh (i := 1) (vs := [_, _, _]) rfl rfl rfl rfl TIs.out rfl (by simp) rfl ?_
    intro ws hh
    replace hh : Hp _ (_ :: .blk _ _ [_, _, _] _ :: _) _ := hh
    refine wl_store hh (i := 0) (vs := [_, _, _]) rfl rfl rfl rfl TIs.out rfl (by simp) rfl ?_
    intro ws hh
    replace hh : Hp _ (.blk _ _ [_, _, _] _ :: _) _ := hh
    refine wl_end ?_
    refine wc_seq ?_
    refine wc_seq ?_
    -- at the drawn region 6
    refine wc_drawn2 [] [] [0, 0, 3, 0, 8, 31, 63, 127, 127, 511, 1023, 127, 127, 6271, 16383, 32767, 127, 131071, 262143, 524287, 1048575, 1048575, 4194303, 8388607, 1048575, 1048575, 51380223, 134217727, 268435455, 1048575, 1048575, 1610612735, 4294967295, 8589934591, 17179869183, 34359738367, 68719476735, 68719476735, 274877906943, 68719476735, 1099511627775, 2199023255551, 4398046511103, 8796093022207, 8796093022207, 35184372088831, 8796093022207, 140737488355327, 281474976710655] 47 [[(4, none)], [(3, none)], [(39, some 0), (40, some 1)], [(7, none)], [(42, some 3)], [(41, some 2), (43, some 4)], [(44, some 5)], [(3, none), (45, some 6)], [(5, none), (45, some 6)], [(46, some 7), (47, some 8), (45, some 6)], [(48, some 9), (45, some 6)], [(4, none), (45, some 6)], [(5, none), (45, some 6)], [(50, some 11), (51, some 12), (45, some 6)], [(52, some 13), (45, some 6)], [(49, some 10), (53, some 14), (45, some 6)], [(7, none), (45, some 6)], [(54, some 15), (55, some 16), (45, some 6)], [(45, some 6), (56, some 17)], [(57, some 18)], [(3, none), (58, some 19)], [(5, none), (58, some 19)], [(59, some 20), (60, some 21), (58, some 19)], [(61, some 22), (58, some 19)], [(4, none), (58, some 19)], [(5, none), (58, some 19)], [(63, some 24), (64, some 25), (58, some 19)], [(65, some 26), (58, some 19)], [(62, some 23), (66, some 27), (58, some 19)], [(7, none), (58, some 19)], [(5, none), (58, some 19)], [(69, some 30), (58, some 19)], [(68, some 29), (70, some 31), (58, some 19)], [(67, some 28), (71, some 32), (58, some 19)], [(58, some 19), (72, some 33)], [(73, some 34)], [(3, none), (74, some 35)], [(8, none), (74, some 35)], [(75, some 36), (76, some 37), (74, some 35)], [(7, none), (74, some 35)], [(77, some 38), (78, some 39), (74, some 35)], [(74, some 35), (79, some 40)], [(80, some 41)], [(8, none), (81, some 42)], [(4, none), (81, some 42)], [(82, some 43), (83, some 44), (81, some 42)], [(7, none), (81, some 42)]] [(46, 85), (45, 84), (44, 83), (43, 82), (42, 81), (41, 80), (40, 79), (39, 78), (38, 77), (37, 76), (36, 75), (35, 74), (34, 73), (33, 72), (32, 71), (31, 70), (30, 69), (29, 68), (28, 67), (27, 66), (26, 65), (25, 64), (24, 63), (23, 62), (22, 61), (21, 60), (20, 59), (19, 58), (18, 57), (17, 56), (16, 55), (15, 54), (14, 53), (13, 52), (12, 51), (11, 50), (10, 49), (9, 48), (8, 47), (7, 46), (6, 45), (5, 44), (4, 43), (3, 42), (2, 41), (1, 40), (0, 39)] hh mixed (by kernel_rfl) alok_nil rfl (by repeat (first | exact np_ret | refine np_then ?_ | refine np_blk ?_)) ?_
    refine dx_val (i := 0) (fun ρ1 w1 hj hR => x_load (vs := [_, _, _]) TIs.out (show ρ1 4 = Value.pointer _ from hR.1) (hj.hp.rd_blk_at (i := 6) (n := 3) rfl rfl) rfl) ?_
    refine dx_val (i := 1) (fun ρ1 w1 hj hR => x_load (vs := [_, _, _]) TIs.out (show ρ1 3 = Value.pointer _ from hR.1) (hj.hp.rd_blk_at (i := 7) (n := 3) rfl rfl) rfl) ?_
    refine dx_call (i := 2) (fun ρ1 w1 hj hR => run_callf FnIs.out (evs_cons (show ρ1 39 = Value.agg (List.toArray _) from hR.1) (evs_cons (show ρ1 40 = Value.agg (List.toArray _) from hR.2.1) evs_nil))) (fun w1 hj => q1 _ (hT.hp hj.hp)) ?_
    refine dx_val (i := 3) (fun ρ1 w1 hj hR => x_move (show ρ1 7 = Value.int _ _ from hR.1)) ?_
    refine dx_val (i := 4) (fun ρ1 w1 hj hR => x_negi (show ρ1 42 = Value.int _ _ from hR.1) (by omega) (by omega)) ?_
    first | refine dx_val (i := 5) (fun ρ1 w1 hj hR => x_neq_t (show ρ1 41 = Value.int _ _ from hR.1) (show ρ1 43 = Value.int _ _ from hR.2.1) (by omega)) ?_ | refine dx_val (i := 5) (fun ρ1 w1 hj hR => x_neq_f (show ρ1 41 = Value.int _ _ from hR.1) (show ρ1 43 = Value.int _ _ from hR.2.1) (by omega)) ?_ | refine dx_val (i := 5) (fun ρ1 w1 hj hR => x_neq_v (show ρ1 41 = Value.int _ _ from hR.1) (show ρ1 43 = Value.int _ _ from hR.2.1)) ?_
    refine dx_val (i := 6) (fun ρ1 w1 hj hR => x_move (show ρ1 44 = Value.bool _ from hR.1)) ?_
    first | refine dx_skip (i := 7) rfl (fun ρ1 w1 hj hR => (show ρ1 45 = Value.bool _ from hR.2.1)) (by decide) ?_ | refine dx_skipU (i := 7) rfl (fun ρ1 w1 hj hR => (show ρ1 45 = undef from hR.2.1)) ?_ | refine dx_take (i := 7) rfl (fun ρ1 w1 hj hR => (show ρ1 45 = Value.bool _ from hR.2.1)) (fun ρ1 w1 hj hR => x_load (vs := [_, _, _]) TIs.out (show ρ1 3 = Value.pointer _ from hR.1) (hj.hp.rd_blk_at (i := 7) (n := 3) rfl rfl) rfl) ?_
    first | refine dx_skip (i := 8) rfl (fun ρ1 w1 hj hR => (show ρ1 45 = Value.bool _ from hR.2.1)) (by decide) ?_ | refine dx_skipU (i := 8) rfl (fun ρ1 w1 hj hR => (show ρ1 45 = undef from hR.2.1)) ?_ | refine dx_take (i := 8) rfl (fun ρ1 w1 hj hR => (show ρ1 45 = Value.bool _ from hR.2.1)) (fun ρ1 w1 hj hR => x_load (vs := [_, _, _]) TIs.out (show ρ1 5 = Value.pointer _ from hR.1) (hj.hp.rd_blk_at (i := 5) (n := 3) rfl rfl) rfl) ?_
    refine dx_take_buildSlice (i := 9) (cs := [_, _, _, _, _, _]) rfl (fun ρ1 w1 hj hR => (show ρ1 45 = Value.bool _ from hR.2.2.1)) UIs.out TIs.out (fun ρ1 w1 hj hR => (evp_cons (show ρ1 46 = Value.agg (List.toArray _) from hR.1) (evp_cons (show ρ1 47 = Value.agg (List.toArray _) from hR.2.1) evp_nil))) rfl rfl (by decide) (by decide) rfl ?_
    refine dx_gen (i := 10) (Is (.agg #[.bool (nR (a.d + c.d)).neg, .string (nR (a.d + c.d)).mag, .int .i64 (nR (a.d + c.d)).e])) Is.ext ?_ ?_
    · intro ρ1 w1 hj hR
      obtain ⟨A48, c48, h48, s48⟩ := hR.1
      refine og_guard_take rfl ((show ρ1 45 = Value.bool _ from hR.2.1)) ?_
      exact og_enter rfl (run_callf FnIs.out (evs_cons h48 evs_nil)) (add2 a c (a.d + c.d) rfl oa oc ka kc A48 c48 _ (hT.hp hj.hp) s48) (fun _ _ hq => ⟨_, hq.1, hq.2, rfl⟩)
    first | refine dx_skip (i := 11) rfl (fun ρ1 w1 hj hR => (show ρ1 45 = Value.bool _ from hR.2.1)) (by decide) ?_ | refine dx_skipU (i := 11) rfl (fun ρ1 w1 hj hR => (show ρ1 45 = undef from hR.2.1)) ?_ | refine dx_take (i := 11) rfl (fun ρ1 w1 hj hR => (show ρ1 45 = Value.bool _ from hR.2.1)) (fun ρ1 w1 hj hR => x_load (vs := [_, _, _]) TIs.out (show ρ1 4 = Value.pointer _ from hR.1) (hj.hp.rd_blk_at (i := 6) (n := 3) rfl rfl) rfl) ?_
    first | refine dx_skip (i := 12) rfl (fun ρ1 w1 hj hR => (show ρ1 45 = Value.bool _ from hR.2.1)) (by decide) ?_ | refine dx_skipU (i := 12) rfl (fun ρ1 w1 hj hR => (show ρ1 45 = undef from hR.2.1)) ?_ | refine dx_take (i := 12) rfl (fun ρ1 w1 hj hR => (show ρ1 45 = Value.bool _ from hR.2.1)) (fun ρ1 w1 hj hR => x_load (vs := [_, _, _]) TIs.out (show ρ1 5 = Value.pointer _ from hR.1) (hj.hp.rd_blk_at (i := 5) (n := 3) rfl rfl) rfl) ?_
    refine dx_take_buildSlice (i := 13) (cs := [_, _, _, _, _, _]) rfl (fun ρ1 w1 hj hR => (show ρ1 45 = Value.bool _ from hR.2.2.1)) UIs.out TIs.out (fun ρ1 w1 hj hR => (evp_cons (show ρ1 50 = Value.agg (List.toArray _) from hR.1) (evp_cons (show ρ1 51 = Value.agg (List.toArray _) from hR.2.1) evp_nil))) rfl rfl (by decide) (by decide) rfl ?_
    refine dx_gen (i := 14) (Is (.agg #[.bool (nR (b.d + c.d)).neg, .string (nR (b.d + c.d)).mag, .int .i64 (nR (b.d + c.d)).e])) Is.ext ?_ ?_
    · intro ρ1 w1 hj hR
      obtain ⟨A52, c52, h52, s52⟩ := hR.1
      refine og_guard_take rfl ((show ρ1 45 = Value.bool _ from hR.2.1)) ?_
      exact og_enter rfl (run_callf FnIs.out (evs_cons h52 evs_nil)) (add2 b c (b.d + c.d) rfl ob oc kb kc A52 c52 _ (hT.hp hj.hp) s52) (fun _ _ hq => ⟨_, hq.1, hq.2, rfl⟩)
    refine dx_take_call (i := 15) rfl (fun ρ1 w1 hj hR => (show ρ1 45 = Value.bool _ from hR.2.2.1)) (fun ρ1 w1 hj hR => run_callf FnIs.out (evs_cons (show ρ1 49 = Value.agg (List.toArray _) from hR.1) (evs_cons (show ρ1 53 = Value.agg (List.toArray _) from hR.2.1) evs_nil))) (fun w1 hj => q2 _ (hT.hp hj.hp)) ?_
    first | refine dx_skip (i := 16) rfl (fun ρ1 w1 hj hR => (show ρ1 45 = Value.bool _ from hR.2.1)) (by decide) ?_ | refine dx_skipU (i := 16) rfl (fun ρ1 w1 hj hR => (show ρ1 45 = undef from hR.2.1)) ?_ | refine dx_take (i := 16) rfl (fun ρ1 w1 hj hR => (show ρ1 45 = Value.bool _ from hR.2.1)) (fun ρ1 w1 hj hR => x_move (show ρ1 7 = Value.int _ _ from hR.1)) ?_
    first | refine dx_skip (i := 17) rfl (fun ρ1 w1 hj hR => (show ρ1 45 = Value.bool _ from hR.2.2.1)) (by decide) ?_ | refine dx_skipU (i := 17) rfl (fun ρ1 w1 hj hR => (show ρ1 45 = undef from hR.2.2.1)) ?_ | refine dx_take (i := 17) rfl (fun ρ1 w1 hj hR => (show ρ1 45 = Value.bool _ from hR.2.2.1)) (fun ρ1 w1 hj hR => x_neq_t (show ρ1 54 = Value.int _ _ from hR.1) (show ρ1 55 = Value.int _ _ from hR.2.1) (by omega)) ?_ | refine dx_take (i := 17) rfl (fun ρ1 w1 hj hR => (show ρ1 45 = Value.bool _ from hR.2.2.1)) (fun ρ1 w1 hj hR => x_neq_f (show ρ1 54 = Value.int _ _ from hR.1) (show ρ1 55 = Value.int _ _ from hR.2.1) (by omega)) ?_ | refine dx_take (i := 17) rfl (fun ρ1 w1 hj hR => (show ρ1 45 = Value.bool _ from hR.2.2.1)) (fun ρ1 w1 hj hR => x_neq_v (show ρ1 54 = Value.int _ _ from hR.1) (show ρ1 55 = Value.int _ _ from hR.2.1)) ?_
    first | refine dx_val (i := 18) (fun ρ1 w1 hj hR => x_pick_t (show ρ1 45 = Value.bool _ from hR.1) rfl) ?_ | refine dx_val (i := 18) (fun ρ1 w1 hj hR => x_pick_f (show ρ1 45 = Value.bool _ from hR.1) (show ρ1 56 = Value.bool _ from hR.2.1)) ?_
    refine dx_val (i := 19) (fun ρ1 w1 hj hR => x_move (show ρ1 57 = Value.bool _ from hR.1)) ?_
    first | refine dx_skip (i := 20) rfl (fun ρ1 w1 hj hR => (show ρ1 58 = Value.bool _ from hR.2.1)) (by decide) ?_ | refine dx_skipU (i := 20) rfl (fun ρ1 w1 hj hR => (show ρ1 58 = undef from hR.2.1)) ?_ | refine dx_take (i := 20) rfl (fun ρ1 w1 hj hR => (show ρ1 58 = Value.bool _ from hR.2.1)) (fun ρ1 w1 hj hR => x_load (vs := [_, _, _]) TIs.out (show ρ1 3 = Value.pointer _ from hR.1) (hj.hp.rd_blk_at (i := 7) (n := 3) rfl rfl) rfl) ?_
    first | refine dx_skip (i := 21) rfl (fun ρ1 w1 hj hR => (show ρ1 58 = Value.bool _ from hR.2.1)) (by decide) ?_ | refine dx_skipU (i := 21) rfl (fun ρ1 w1 hj hR => (show ρ1 58 = undef from hR.2.1)) ?_ | refine dx_take (i := 21) rfl (fun ρ1 w1 hj hR => (show ρ1 58 = Value.bool _ from hR.2.1)) (fun ρ1 w1 hj hR => x_load (vs := [_, _, _]) TIs.out (show ρ1 5 = Value.pointer _ from hR.1) (hj.hp.rd_blk_at (i := 5) (n := 3) rfl rfl) rfl) ?_
    refine dx_take_buildSlice (i := 22) (cs := [_, _, _, _, _, _]) rfl (fun ρ1 w1 hj hR => (show ρ1 58 = Value.bool _ from hR.2.2.1)) UIs.out TIs.out (fun ρ1 w1 hj hR => (evp_cons (show ρ1 59 = Value.agg (List.toArray _) from hR.1) (evp_cons (show ρ1 60 = Value.agg (List.toArray _) from hR.2.1) evp_nil))) rfl rfl (by decide) (by decide) rfl ?_
    refine dx_gen (i := 23) (Is (.agg #[.bool (nR (a.d * c.d)).neg, .string (nR (a.d * c.d)).mag, .int .i64 (nR (a.d * c.d)).e])) Is.ext ?_ ?_
    · intro ρ1 w1 hj hR
      obtain ⟨A61, c61, h61, s61⟩ := hR.1
      refine og_guard_take rfl ((show ρ1 58 = Value.bool _ from hR.2.1)) ?_
      exact og_enter rfl (run_callf FnIs.out (evs_cons h61 evs_nil)) (mul2 a c (a.d * c.d) rfl oa oc ka kc A61 c61 _ (hT.hp hj.hp) s61) (fun _ _ hq => ⟨_, hq.1, hq.2, rfl⟩)
    first | refine dx_skip (i := 24) rfl (fun ρ1 w1 hj hR => (show ρ1 58 = Value.bool _ from hR.2.1)) (by decide) ?_ | refine dx_skipU (i := 24) rfl (fun ρ1 w1 hj hR => (show ρ1 58 = undef from hR.2.1)) ?_ | refine dx_take (i := 24) rfl (fun ρ1 w1 hj hR => (show ρ1 58 = Value.bool _ from hR.2.1)) (fun ρ1 w1 hj hR => x_load (vs := [_, _, _]) TIs.out (show ρ1 4 = Value.pointer _ from hR.1) (hj.hp.rd_blk_at (i := 6) (n := 3) rfl rfl) rfl) ?_
    first | refine dx_skip (i := 25) rfl (fun ρ1 w1 hj hR => (show ρ1 58 = Value.bool _ from hR.2.1)) (by decide) ?_ | refine dx_skipU (i := 25) rfl (fun ρ1 w1 hj hR => (show ρ1 58 = undef from hR.2.1)) ?_ | refine dx_take (i := 25) rfl (fun ρ1 w1 hj hR => (show ρ1 58 = Value.bool _ from hR.2.1)) (fun ρ1 w1 hj hR => x_load (vs := [_, _, _]) TIs.out (show ρ1 5 = Value.pointer _ from hR.1) (hj.hp.rd_blk_at (i := 5) (n := 3) rfl rfl) rfl) ?_
    refine dx_take_buildSlice (i := 26) (cs := [_, _, _, _, _, _]) rfl (fun ρ1 w1 hj hR => (show ρ1 58 = Value.bool _ from hR.2.2.1)) UIs.out TIs.out (fun ρ1 w1 hj hR => (evp_cons (show ρ1 63 = Value.agg (List.toArray _) from hR.1) (evp_cons (show ρ1 64 = Value.agg (List.toArray _) from hR.2.1) evp_nil))) rfl rfl (by decide) (by decide) rfl ?_
    refine dx_gen (i := 27) (Is (.agg #[.bool (nR (b.d * c.d)).neg, .string (nR (b.d * c.d)).mag, .int .i64 (nR (b.d * c.d)).e])) Is.ext ?_ ?_
    · intro ρ1 w1 hj hR
      obtain ⟨A65, c65, h65, s65⟩ := hR.1
      refine og_guard_take rfl ((show ρ1 58 = Value.bool _ from hR.2.1)) ?_
      exact og_enter rfl (run_callf FnIs.out (evs_cons h65 evs_nil)) (mul2 b c (b.d * c.d) rfl ob oc kb kc A65 c65 _ (hT.hp hj.hp) s65) (fun _ _ hq => ⟨_, hq.1, hq.2, rfl⟩)
    refine dx_take_call (i := 28) rfl (fun ρ1 w1 hj hR => (show ρ1 58 = Value.bool _ from hR.2.2.1)) (fun ρ1 w1 hj hR => run_callf FnIs.out (evs_cons (show ρ1 62 = Value.agg (List.toArray _) from hR.1) (evs_cons (show ρ1 66 = Value.agg (List.toArray _) from hR.2.1) evs_nil))) (fun w1 hj => q3 _ (hT.hp hj.hp)) ?_
    first | refine dx_skip (i := 29) rfl (fun ρ1 w1 hj hR => (show ρ1 58 = Value.bool _ from hR.2.1)) (by decide) ?_ | refine dx_skipU (i := 29) rfl (fun ρ1 w1 hj hR => (show ρ1 58 = undef from hR.2.1)) ?_ | refine dx_take (i := 29) rfl (fun ρ1 w1 hj hR => (show ρ1 58 = Value.bool _ from hR.2.1)) (fun ρ1 w1 hj hR => x_move (show ρ1 7 = Value.int _ _ from hR.1)) ?_
    first | refine dx_skip (i := 30) rfl (fun ρ1 w1 hj hR => (show ρ1 58 = Value.bool _ from hR.2.1)) (by decide) ?_ | refine dx_skipU (i := 30) rfl (fun ρ1 w1 hj hR => (show ρ1 58 = undef from hR.2.1)) ?_ | refine dx_take (i := 30) rfl (fun ρ1 w1 hj hR => (show ρ1 58 = Value.bool _ from hR.2.1)) (fun ρ1 w1 hj hR => x_load (vs := [_, _, _]) TIs.out (show ρ1 5 = Value.pointer _ from hR.1) (hj.hp.rd_blk_at (i := 5) (n := 3) rfl rfl) rfl) ?_
    refine dx_take_call (i := 31) rfl (fun ρ1 w1 hj hR => (show ρ1 58 = Value.bool _ from hR.2.1)) (fun ρ1 w1 hj hR => run_callf FnIs.out (evs_cons (show ρ1 69 = Value.agg (List.toArray _) from hR.1) evs_nil)) (fun w1 hj => q6 _) ?_
    first | refine dx_skip (i := 32) rfl (fun ρ1 w1 hj hR => (show ρ1 58 = Value.bool _ from hR.2.2.1)) (by decide) ?_ | refine dx_skipU (i := 32) rfl (fun ρ1 w1 hj hR => (show ρ1 58 = undef from hR.2.2.1)) ?_ | refine dx_take (i := 32) rfl (fun ρ1 w1 hj hR => (show ρ1 58 = Value.bool _ from hR.2.2.1)) (fun ρ1 w1 hj hR => x_muli (show ρ1 68 = Value.int _ _ from hR.1) (show ρ1 70 = Value.int _ _ from hR.2.1) (by omega) (by omega)) ?_
    first | refine dx_skip (i := 33) rfl (fun ρ1 w1 hj hR => (show ρ1 58 = Value.bool _ from hR.2.2.1)) (by decide) ?_ | refine dx_skipU (i := 33) rfl (fun ρ1 w1 hj hR => (show ρ1 58 = undef from hR.2.2.1)) ?_ | refine dx_take (i := 33) rfl (fun ρ1 w1 hj hR => (show ρ1 58 = Value.bool _ from hR.2.2.1)) (fun ρ1 w1 hj hR => x_neq_t (show ρ1 67 = Value.int _ _ from hR.1) (show ρ1 71 = Value.int _ _ from hR.2.1) (by omega)) ?_ | refine dx_take (i := 33) rfl (fun ρ1 w1 hj hR => (show ρ1 58 = Value.bool _ from hR.2.2.1)) (fun ρ1 w1 hj hR => x_neq_f (show ρ1 67 = Value.int _ _ from hR.1) (show ρ1 71 = Value.int _ _ from hR.2.1) (by omega)) ?_ | refine dx_take (i := 33) rfl (fun ρ1 w1 hj hR => (show ρ1 58 = Value.bool _ from hR.2.2.1)) (fun ρ1 w1 hj hR => x_neq_v (show ρ1 67 = Value.int _ _ from hR.1) (show ρ1 71 = Value.int _ _ from hR.2.1)) ?_
    first | refine dx_val (i := 34) (fun ρ1 w1 hj hR => x_pick_t (show ρ1 58 = Value.bool _ from hR.1) rfl) ?_ | refine dx_val (i := 34) (fun ρ1 w1 hj hR => x_pick_f (show ρ1 58 = Value.bool _ from hR.1) (show ρ1 72 = Value.bool _ from hR.2.1)) ?_
    refine dx_val (i := 35) (fun ρ1 w1 hj hR => x_move (show ρ1 73 = Value.bool _ from hR.1)) ?_
    first | refine dx_skip (i := 36) rfl (fun ρ1 w1 hj hR => (show ρ1 74 = Value.bool _ from hR.2.1)) (by decide) ?_ | refine dx_skipU (i := 36) rfl (fun ρ1 w1 hj hR => (show ρ1 74 = undef from hR.2.1)) ?_ | refine dx_take (i := 36) rfl (fun ρ1 w1 hj hR => (show ρ1 74 = Value.bool _ from hR.2.1)) (fun ρ1 w1 hj hR => x_load (vs := [_, _, _]) TIs.out (show ρ1 3 = Value.pointer _ from hR.1) (hj.hp.rd_blk_at (i := 7) (n := 3) rfl rfl) rfl) ?_
    first | refine dx_skip (i := 37) rfl (fun ρ1 w1 hj hR => (show ρ1 74 = Value.bool _ from hR.2.1)) (by decide) ?_ | refine dx_skipU (i := 37) rfl (fun ρ1 w1 hj hR => (show ρ1 74 = undef from hR.2.1)) ?_ | refine dx_take (i := 37) rfl (fun ρ1 w1 hj hR => (show ρ1 74 = Value.bool _ from hR.2.1)) (fun ρ1 w1 hj hR => x_load (vs := [_, _, _]) TIs.out (show ρ1 8 = Value.pointer _ from hR.1) (hj.hp.rd_blk_at (i := 2) (n := 3) rfl rfl) rfl) ?_
    refine dx_take_call (i := 38) rfl (fun ρ1 w1 hj hR => (show ρ1 74 = Value.bool _ from hR.2.2.1)) (fun ρ1 w1 hj hR => run_callf FnIs.out (evs_cons (show ρ1 75 = Value.agg (List.toArray _) from hR.1) (evs_cons (show ρ1 76 = Value.agg (List.toArray _) from hR.2.1) evs_nil))) (fun w1 hj => q4 _ (hT.hp hj.hp)) ?_
    first | refine dx_skip (i := 39) rfl (fun ρ1 w1 hj hR => (show ρ1 74 = Value.bool _ from hR.2.1)) (by decide) ?_ | refine dx_skipU (i := 39) rfl (fun ρ1 w1 hj hR => (show ρ1 74 = undef from hR.2.1)) ?_ | refine dx_take (i := 39) rfl (fun ρ1 w1 hj hR => (show ρ1 74 = Value.bool _ from hR.2.1)) (fun ρ1 w1 hj hR => x_move (show ρ1 7 = Value.int _ _ from hR.1)) ?_
    first | refine dx_skip (i := 40) rfl (fun ρ1 w1 hj hR => (show ρ1 74 = Value.bool _ from hR.2.2.1)) (by decide) ?_ | refine dx_skipU (i := 40) rfl (fun ρ1 w1 hj hR => (show ρ1 74 = undef from hR.2.2.1)) ?_ | refine dx_take (i := 40) rfl (fun ρ1 w1 hj hR => (show ρ1 74 = Value.bool _ from hR.2.2.1)) (fun ρ1 w1 hj hR => x_neq_t (show ρ1 77 = Value.int _ _ from hR.1) (show ρ1 78 = Value.int _ _ from hR.2.1) (by omega)) ?_ | refine dx_take (i := 40) rfl (fun ρ1 w1 hj hR => (show ρ1 74 = Value.bool _ from hR.2.2.1)) (fun ρ1 w1 hj hR => x_neq_f (show ρ1 77 = Value.int _ _ from hR.1) (show ρ1 78 = Value.int _ _ from hR.2.1) (by omega)) ?_ | refine dx_take (i := 40) rfl (fun ρ1 w1 hj hR => (show ρ1 74 = Value.bool _ from hR.2.2.1)) (fun ρ1 w1 hj hR => x_neq_v (show ρ1 77 = Value.int _ _ from hR.1) (show ρ1 78 = Value.int _ _ from hR.2.1)) ?_
    first | refine dx_val (i := 41) (fun ρ1 w1 hj hR => x_pick_t (show ρ1 74 = Value.bool _ from hR.1) rfl) ?_ | refine dx_val (i := 41) (fun ρ1 w1 hj hR => x_pick_f (show ρ1 74 = Value.bool _ from hR.1) (show ρ1 79 = Value.bool _ from hR.2.1)) ?_
    refine dx_val (i := 42) (fun ρ1 w1 hj hR => x_move (show ρ1 80 = Value.bool _ from hR.1)) ?_
    first | refine dx_skip (i := 43) rfl (fun ρ1 w1 hj hR => (show ρ1 81 = Value.bool _ from hR.2.1)) (by decide) ?_ | refine dx_skipU (i := 43) rfl (fun ρ1 w1 hj hR => (show ρ1 81 = undef from hR.2.1)) ?_ | refine dx_take (i := 43) rfl (fun ρ1 w1 hj hR => (show ρ1 81 = Value.bool _ from hR.2.1)) (fun ρ1 w1 hj hR => x_load (vs := [_, _, _]) TIs.out (show ρ1 8 = Value.pointer _ from hR.1) (hj.hp.rd_blk_at (i := 2) (n := 3) rfl rfl) rfl) ?_
    first | refine dx_skip (i := 44) rfl (fun ρ1 w1 hj hR => (show ρ1 81 = Value.bool _ from hR.2.1)) (by decide) ?_ | refine dx_skipU (i := 44) rfl (fun ρ1 w1 hj hR => (show ρ1 81 = undef from hR.2.1)) ?_ | refine dx_take (i := 44) rfl (fun ρ1 w1 hj hR => (show ρ1 81 = Value.bool _ from hR.2.1)) (fun ρ1 w1 hj hR => x_load (vs := [_, _, _]) TIs.out (show ρ1 4 = Value.pointer _ from hR.1) (hj.hp.rd_blk_at (i := 6) (n := 3) rfl rfl) rfl) ?_
    refine dx_take_call (i := 45) rfl (fun ρ1 w1 hj hR => (show ρ1 81 = Value.bool _ from hR.2.2.1)) (fun ρ1 w1 hj hR => run_callf FnIs.out (evs_cons (show ρ1 82 = Value.agg (List.toArray _) from hR.1) (evs_cons (show ρ1 83 = Value.agg (List.toArray _) from hR.2.1) evs_nil))) (fun w1 hj => q5 _ (hT.hp hj.hp)) ?_
    first | refine dx_skip (i := 46) rfl (fun ρ1 w1 hj hR => (show ρ1 81 = Value.bool _ from hR.2.1)) (by decide) ?_ | refine dx_skipU (i := 46) rfl (fun ρ1 w1 hj hR => (show ρ1 81 = undef from hR.2.1)) ?_ | refine dx_take (i := 46) rfl (fun ρ1 w1 hj hR => (show ρ1 81 = Value.bool _ from hR.2.1)) (fun ρ1 w1 hj hR => x_move (show ρ1 7 = Value.int _ _ from hR.1)) ?_
    refine dx_nil ?_
    intro f W hJ hV _
    have hb_6 := hJ.bl
    obtain ⟨v85, v84, v83, v82, v81, v80, v79, v78, v77, v76, v75, v74, v73, v72, v71, v70, v69, v68, v67, v66, v65, v64, v63, v62, v61, v60, v59, v58, v57, v56, v55, v54, v53, v52, v51, v50, v49, v48, v47, v46, v45, v44, v43, v42, v41, v40, v39, _⟩ := hV
    have e39 : f 0 = _ := v39
    have e40 : f 1 = _ := v40
    have e41 : f 2 = _ := v41
    have e42 : f 3 = _ := v42
    have e43 : f 4 = _ := v43
    have e44 : f 5 = _ := v44
    have e45 : f 6 = _ := v45
    have e46 : f 7 = _ := v46
    have e47 : f 8 = _ := v47
    obtain ⟨A48, c48, e48, f48⟩ : Rows _ _ _ (f 9) W := v48
    have e49 : f 10 = _ := v49
    have e50 : f 11 = _ := v50
    have e51 : f 12 = _ := v51
    obtain ⟨A52, c52, e52, f52⟩ : Rows _ _ _ (f 13) W := v52
    have e53 : f 14 = _ := v53
    have e54 : f 15 = _ := v54
    have e55 : f 16 = _ := v55
    have e56 : f 17 = _ := v56
    have e57 : f 18 = _ := v57
    have e58 : f 19 = _ := v58
    have e59 : f 20 = _ := v59
    have e60 : f 21 = _ := v60
    obtain ⟨A61, c61, e61, f61⟩ : Rows _ _ _ (f 22) W := v61
    have e62 : f 23 = _ := v62
    have e63 : f 24 = _ := v63
    have e64 : f 25 = _ := v64
    obtain ⟨A65, c65, e65, f65⟩ : Rows _ _ _ (f 26) W := v65
    have e66 : f 27 = _ := v66
    have e67 : f 28 = _ := v67
    have e68 : f 29 = _ := v68
    have e69 : f 30 = _ := v69
    have e70 : f 31 = _ := v70
    have e71 : f 32 = _ := v71
    have e72 : f 33 = _ := v72
    have e73 : f 34 = _ := v73
    have e74 : f 35 = _ := v74
    have e75 : f 36 = _ := v75
    have e76 : f 37 = _ := v76
    have e77 : f 38 = _ := v77
    have e78 : f 39 = _ := v78
    have e79 : f 40 = _ := v79
    have e80 : f 41 = _ := v80
    have e81 : f 42 = _ := v81
    have e82 : f 43 = _ := v82
    have e83 : f 44 = _ := v83
    have e84 : f 45 = _ := v84
    have e85 : f 46 = _ := v85
    replace hh := hJ.hp
    refine wl_cast (updL_K (eql_cons e85 (eql_cons e84 (eql_cons e83 (eql_cons e82 (eql_cons e81 (eql_cons e80 (eql_cons e79 (eql_cons e78 (eql_cons e77 (eql_cons e76 (eql_cons e75 (eql_cons e74 (eql_cons e73 (eql_cons e72 (eql_cons e71 (eql_cons e70 (eql_cons e69 (eql_cons e68 (eql_cons e67 (eql_cons e66 (eql_cons e65 (eql_cons e64 (eql_cons e63 (eql_cons e62 (eql_cons e61 (eql_cons e60 (eql_cons e59 (eql_cons e58 (eql_cons e57 (eql_cons e56 (eql_cons e55 (eql_cons e54 (eql_cons e53 (eql_cons e52 (eql_cons e51 (eql_cons e50 (eql_cons e49 (eql_cons e48 (eql_cons e47 (eql_cons e46 (eql_cons e45 (eql_cons e44 (eql_cons e43 (eql_cons e42 (eql_cons e41 (eql_cons e40 (eql_cons e39 eql_nil)))))))))))))))))))))))))))))))))))))))))))))))) ?_
    dsimp only [updK]
    clear e39 e40 e41 e42 e43 e44 e45 e46 e47 e48 e49 e50 e51 e52 e53 e54 e55 e56 e57 e58 e59 e60 e61 e62 e63 e64 e65 e66 e67 e68 e69 e70 e71 e72 e73 e74 e75 e76 e77 e78 e79 e80 e81 e82 e83 e84 e85 hJ
    first | (refine wl_guard_skip (by decide) rfl rfl (by decide) ?_) | (refine wl_guard_take rfl rfl ?_; (first | refine s_neq_t rfl rfl (by omega) (by decide) ?_ | refine s_neq_f rfl rfl (by omega) (by decide) ?_ | refine s_neq_v rfl rfl (by decide) ?_)) | (refine wl_guard_skipV (by decide) rfl rfl ?_)
    first | refine s_pick_t rfl (ev_bool rfl) (by decide) ?_ | refine s_pick_f rfl (ev_bool rfl) (by decide) ?_
    refine wl_end ?_
    refine wc_cond_f rfl ?_
    refine wc_skip ?_
    refine k_then ?_
    refine wc_seq ?_
    -- at the drawn region 8
    refine wc_drawn2 [7] [] [0, 1, 0, 7, 0, 31, 63, 0, 255] 8 [[(3, none)], [(88, some 0)], [(4, none)], [(90, some 2)], [(5, none)], [(92, some 4)], [(89, some 1), (91, some 3), (93, some 5)], []] [(7, 11), (6, 94), (5, 93), (4, 92), (3, 91), (2, 90), (1, 89), (0, 88)] hh mixed (by kernel_rfl) (alok_cons rfl TIs.out alok_nil) rfl (by repeat (first | exact np_ret | refine np_then ?_ | refine np_blk ?_)) ?_
    refine dx_val (i := 0) (fun ρ1 w1 hj hR => x_load (vs := [_, _, _]) TIs.out (show ρ1 3 = Value.pointer _ from hR.1) (hj.hp.rd_blk_at (i := 7) (n := 3) rfl rfl) rfl) ?_
    refine dx_call (i := 1) (fun ρ1 w1 hj hR => run_callf FnIs.out (evs_cons (show ρ1 88 = Value.agg (List.toArray _) from hR.1) evs_nil)) (fun w1 hj => hfa _ (hT.hp hj.hp)) ?_
    refine dx_val (i := 2) (fun ρ1 w1 hj hR => x_load (vs := [_, _, _]) TIs.out (show ρ1 4 = Value.pointer _ from hR.1) (hj.hp.rd_blk_at (i := 6) (n := 3) rfl rfl) rfl) ?_
    refine dx_call (i := 3) (fun ρ1 w1 hj hR => run_callf FnIs.out (evs_cons (show ρ1 90 = Value.agg (List.toArray _) from hR.1) evs_nil)) (fun w1 hj => hfb _ (hT.hp hj.hp)) ?_
    refine dx_val (i := 4) (fun ρ1 w1 hj hR => x_load (vs := [_, _, _]) TIs.out (show ρ1 5 = Value.pointer _ from hR.1) (hj.hp.rd_blk_at (i := 5) (n := 3) rfl rfl) rfl) ?_
    refine dx_call (i := 5) (fun ρ1 w1 hj hR => run_callf FnIs.out (evs_cons (show ρ1 92 = Value.agg (List.toArray _) from hR.1) evs_nil)) (fun w1 hj => hfc _ (hT.hp hj.hp)) ?_
    refine dx_val (i := 6) (fun ρ1 w1 hj hR => x_build_arr (cs := [_, _, _, _, _, _, _, _, _]) UIs.out TIs.out TIs.out (evp_cons (show ρ1 89 = Value.agg (List.toArray _) from hR.1) (evp_cons (show ρ1 91 = Value.agg (List.toArray _) from hR.2.1) (evp_cons (show ρ1 93 = Value.agg (List.toArray _) from hR.2.2.1) evp_nil))) rfl) ?_
    refine dx_gen (i := 7) (NewVar _ 33 _) NewVar.ext (fun ρ1 w1 hj hR => og_alloc TIs.out hj.bl (fun v w2 h hb => ⟨hb, h⟩)) ?_
    refine dx_nil ?_
    intro f W hJ hV _
    have hb_8 := hJ.bl
    obtain ⟨v11, v94, v93, v92, v91, v90, v89, v88, _⟩ := hV
    have e88 : f 0 = _ := v88
    have e89 : f 1 = _ := v89
    have e90 : f 2 = _ := v90
    have e91 : f 3 = _ := v91
    have e92 : f 4 = _ := v92
    have e93 : f 5 = _ := v93
    have e94 : f 6 = _ := v94
    obtain ⟨b11, e11, hl11, hc11⟩ : NewVar _ _ _ (f 7) W := v11
    replace hh := hJ.newVar hh hl11 hc11
    refine wl_cast (updL_K (eql_cons e11 (eql_cons e94 (eql_cons e93 (eql_cons e92 (eql_cons e91 (eql_cons e90 (eql_cons e89 (eql_cons e88 eql_nil))))))))) ?_
    dsimp only [updK]
    clear e88 e89 e90 e91 e92 e93 e94 e11 hJ
    refine wl_store hh (i := 0) (vs := [_, _, _, _, _, _, _, _, _]) rfl rfl rfl rfl TIs.out rfl (by simp) rfl ?_
    intro ws hh
    replace hh : Hp _ (.blk _ _ [_, _, _, _, _, _, _, _, _] _ :: _) _ := hh
    refine wl_end ?_
    refine wc_seq ?_
    refine wc_region ?_
    refine s_assign (ev_int rfl) (by decide) ?_
    refine wl_end ?_
    refine wc_seq ?_
    refine wc_seq ?_
    refine wc_region ?_
    refine s_load (vs := [_, _, _, _, _, _, _, _, _]) TIs.out rfl (hh.rd_blk_at (i := 0) (n := 9) rfl rfl) rfl (by decide) ?_
    refine s_move (ev_int rfl) (by decide) ?_
    refine wl_end ?_
    refine wc_block ?_
    -- at a loop
    replace hh := hh.sub (List.Sublist.cons _ (List.Sublist.cons_cons _ (List.Sublist.cons_cons _ (List.Sublist.cons _ (List.Sublist.cons _ (List.Sublist.cons _ (List.Sublist.cons _ (List.Sublist.cons _ (List.Sublist.cons_cons _ List.Sublist.slnil)))))))))
    refine wc_loop2 [6, 12, 14, 96, 97, 98, 99, 100, 101, 102, 103, 104, 105, 106, 107, 108, 109, 110, 111, 112, 113, 114, 115, 116, 117, 118, 119] 12 96
      (fun s j w' => ∃ (i : Nat) (p q : Bool), i ≤ 3 ∧ j = .int .i64 i ∧ s = .int .i64 ((p.toNat + 2 * q.toNat : Nat) : Int) ∧ (LO ∈ [a.d, b.d, c.d].take i → p = true) ∧ (HI ∈ [a.d, b.d, c.d].take i → q = true) ∧ Hp w [.blk b10 25 [.bool (nR HI).neg, .string (nR HI).mag, .int .i64 (nR HI).e] (0, 0), .blk b9 25 [.bool (nR LO).neg, .string (nR LO).mag, .int .i64 (nR LO).e] (0, 0), .blk b3 25 [.bool a.neg, .string a.mag, .int .i64 a.e] (0, 0)] w')
      (fun _ j _ => 3 - (intOf j).toNat) ?_ ?_
    · exact ⟨0, false, false, by omega, rfl, rfl, fun h => by simp at h, fun h => by simp at h, hh⟩
    · clear hh
      rintro ρ' s j w' ⟨i, p, q, hi, rfl, rfl, hp, hq, hh⟩
      -- 
      -- 
      by_cases hlt : i < 3
      · obtain ⟨x, hx, hxm, hv⟩ : ∃ x, [a.d, b.d, c.d][i]? = some x ∧ x ∈ [a.d, b.d, c.d] ∧ (#[.bool (nR a.d).neg, .string (nR a.d).mag, .int .i64 (nR a.d).e, .bool (nR b.d).neg, .string (nR b.d).mag, .int .i64 (nR b.d).e, .bool (nR c.d).neg, .string (nR c.d).mag, .int .i64 (nR c.d).e] : Array Value).extract (i * 3) (i * 3 + 3) = #[.bool (nR x).neg, .string (nR x).mag, .int .i64 (nR x).e] := by
          have h3 : i = 0 ∨ i = 1 ∨ i = 2 := by omega
          rcases h3 with rfl | rfl | rfl
          · exact ⟨a.d, rfl, by simp, rfl⟩
          · exact ⟨b.d, rfl, by simp, rfl⟩
          · exact ⟨c.d, rfl, by simp, rfl⟩
        have hxo : (nR x).ok := by
          simp only [List.mem_cons, List.not_mem_nil, or_false] at hxm
          rcases hxm with rfl | rfl | rfl
          · exact (ka.ok (by omega))
          · exact (kb.ok (by omega))
          · exact (kc.ok (by omega))
        have hlo := lo2 x hxm
        have hhi := hi2 x hxm
        have hc1 : ¬ 0 < cmpD LO x := by rcases d_tri LO x with h | h | h <;> first | (rw [cmpD_of_lt h]; omega) | (rw [h, cmpD_self]; omega) | exact absurd h hlo
        have hc2 : ¬ cmpD HI x < 0 := by rcases d_tri HI x with h | h | h <;> first | (rw [cmpD_of_gt h]; omega) | (rw [h, cmpD_self]; omega) | exact absurd h hhi
        have hk1 := fun w1 hT1 => dCmp_calls (nR LO) (nR x) w1 hT1 oLO hxo
        have hk2 := fun w1 hT1 => dCmp_calls (nR HI) (nR x) w1 hT1 oHI hxo
        simp only [nR_d] at hk1 hk2
        generalize cmpD LO x = c1 at *
        generalize cmpD HI x = c2 at *
        have htk := take_snoc hx
        have p1 : ∀ p q : Bool, p.toNat + 2 * q.toNat < 4 := by decide
        have p2 : ∀ p q : Bool, (p.toNat + 2 * q.toNat ||| 1) = true.toNat + 2 * q.toNat := by decide
        have p3 : ∀ p q : Bool, (p.toNat + 2 * q.toNat ||| 2) = p.toNat + 2 * true.toNat := by decide
        by_cases e1 : x = LO
        · have n1 : NR.mk (nR x).neg (nR x).mag (nR x).e = NR.mk (nR LO).neg (nR LO).mag (nR LO).e := by rw [e1]
          by_cases e2 : x = HI
          · have n2 : NR.mk (nR x).neg (nR x).mag (nR x).e = NR.mk (nR HI).neg (nR HI).mag (nR HI).e := by rw [e2]
            refine wc_seq ?_
            refine wc_region ?_
            first | refine s_lss_t rfl rfl (by omega) (by decide) ?_ | refine s_lss_f rfl rfl (by omega) (by decide) ?_ | refine s_lss_v rfl rfl (by decide) ?_
            refine wl_end ?_
            refine wc_seq ?_
            refine wc_cond_t rfl ?_
            refine wc_skip ?_
            refine k_then ?_
            refine wc_seq ?_
            refine wc_block ?_
            refine wc_seq ?_
            refine wc_region ?_
            refine s_index_arr (i := i) UIs.out TIs.out rfl rfl (by omega) (by first | assumption | rfl) (by decide) ?_
            refine wl_alloc hh TIs.out (by decide) ?_
            intro b14 w14 hh
            refine wl_store hh (i := 0) (vs := [_, _, _]) rfl rfl rfl rfl TIs.out rfl (by simp) rfl ?_
            intro ws hh
            replace hh : Hp _ (.blk _ _ [_, _, _] _ :: _) _ := hh
            refine wl_end ?_
            refine wc_seq ?_
            refine wc_seq ?_
            refine wc_region ?_
            refine s_load (vs := [_, _, _]) TIs.out rfl (hh.rd_blk_at (i := 2) (n := 3) rfl rfl) rfl (by decide) ?_
            refine s_load (vs := [_, _, _]) TIs.out rfl (hh.rd_blk_at (i := 0) (n := 3) rfl rfl) rfl (by decide) ?_
            -- at some 101 := Op.call { callee := Callee.value (Operand.func 13), args := #[Operand.tmp 99, Operand.tmp 
            refine s_callf (hk1 _ (hT.hp hh)) FnIs.out rfl (by decide) ?_
            rintro e_ w101 ⟨rfl, hb_⟩
            refine ⟨_, rfl, ?_⟩
            replace hh := hh.ext hb_
            first | refine s_gtr_t rfl rfl (by omega) (by decide) ?_ | refine s_gtr_f rfl rfl (by omega) (by decide) ?_ | refine s_gtr_v rfl rfl (by decide) ?_
            refine s_move (ev_bool rfl) (by decide) ?_
            first | (refine wl_guard_skip (by decide) rfl rfl (by decide) ?_) | (refine wl_guard_take rfl rfl ?_; (refine s_load (vs := [_, _, _]) TIs.out rfl (hh.rd_blk_at (i := 1) (n := 3) rfl rfl) rfl (by decide) ?_)) | (refine wl_guard_skipV (by decide) rfl rfl ?_)
            first | (refine wl_guard_skip (by decide) rfl rfl (by decide) ?_) | (refine wl_guard_take rfl rfl ?_; (refine s_load (vs := [_, _, _]) TIs.out rfl (hh.rd_blk_at (i := 0) (n := 3) rfl rfl) rfl (by decide) ?_)) | (refine wl_guard_skipV (by decide) rfl rfl ?_)
            -- at guarded Op.call { callee := Callee.value (Operand.func 13), args := #[Operand.tmp 104, O
            refine wl_guard_take rfl rfl ?_
            refine s_callf (hk2 _ (hT.hp hh)) FnIs.out rfl (by decide) ?_
            rintro e_ w106 ⟨rfl, hb_⟩
            refine ⟨_, rfl, ?_⟩
            replace hh := hh.ext hb_
            first | (refine wl_guard_skip (by decide) rfl rfl (by decide) ?_) | (refine wl_guard_take rfl rfl ?_; (first | refine s_lss_t rfl rfl (by omega) (by decide) ?_ | refine s_lss_f rfl rfl (by omega) (by decide) ?_ | refine s_lss_v rfl rfl (by decide) ?_)) | (refine wl_guard_skipV (by decide) rfl rfl ?_)
            first | refine s_pick_t rfl (ev_bool rfl) (by decide) ?_ | refine s_pick_f rfl (ev_bool rfl) (by decide) ?_
            refine wl_end ?_
            refine wc_cond_f rfl ?_
            refine wc_skip ?_
            refine k_then ?_
            refine wc_seq ?_
            refine wc_seq ?_
            refine wc_region ?_
            refine s_load (vs := [_, _, _]) TIs.out rfl (hh.rd_blk_at (i := 0) (n := 3) rfl rfl) rfl (by decide) ?_
            refine s_load (vs := [_, _, _]) TIs.out rfl (hh.rd_blk_at (i := 2) (n := 3) rfl rfl) rfl (by decide) ?_
            first | refine s_eqN_t rfl rfl (by first | assumption | rfl) (by decide) ?_ | refine s_eqN_f rfl rfl (by assumption) (by decide) ?_
            refine wl_end ?_
            -- at if Operand.tmp 111
            refine wc_cond_t rfl ?_
            refine wc_region ?_
            refine s_move (ev_int rfl) (by decide) ?_
            -- at some 113 := Op.binOp BinOp.or 3 (Operand.tmp 112) (Operand.const (Value.int IntKind.i64 1)) 3
            refine s_or4 (a := p.toNat + 2 * q.toNat) (b := 1) rfl rfl (p1 _ _) (by omega) (by decide) ?_
            rw [p2]
            refine s_assign (ev_int rfl) (by decide) ?_
            refine wl_end ?_
            refine wc_seq ?_
            refine wc_region ?_
            refine s_load (vs := [_, _, _]) TIs.out rfl (hh.rd_blk_at (i := 0) (n := 3) rfl rfl) rfl (by decide) ?_
            refine s_load (vs := [_, _, _]) TIs.out rfl (hh.rd_blk_at (i := 1) (n := 3) rfl rfl) rfl (by decide) ?_
            first | refine s_eqN_t rfl rfl (by first | assumption | rfl) (by decide) ?_ | refine s_eqN_f rfl rfl (by assumption) (by decide) ?_
            refine wl_end ?_
            refine wc_cond_t rfl ?_
            refine wc_region ?_
            refine s_move (ev_int rfl) (by decide) ?_
            -- at some 118 := Op.binOp BinOp.or 3 (Operand.tmp 117) (Operand.const (Value.int IntKind.i64 2)) 3
            refine s_or4 (a := true.toNat + 2 * q.toNat) (b := 2) rfl rfl (p1 _ _) (by omega) (by decide) ?_
            rw [p3]
            refine s_assign (ev_int rfl) (by decide) ?_
            refine wl_nil ?_
            refine b_norm ?_
            refine k_then ?_
            refine wc_region ?_
            refine s_addi rfl rfl (by omega) (by omega) (by decide) ?_
            refine s_move (ev_int rfl) (by decide) ?_
            refine wl_nil ?_
            refine k_then ?_
            -- at ('round',)
            replace hh := hh.sub (List.Sublist.cons _ (List.Sublist.cons_cons _ (List.Sublist.cons_cons _ (List.Sublist.cons_cons _ List.Sublist.slnil))))
            refine ⟨⟨i + 1, true, true, by omega, rfl, rfl, fun h => ?_, fun h => ?_, hh⟩, by show 3 - (i + 1) < 3 - i; omega, ?_⟩
            · first | rfl | (rw [htk, List.mem_append, List.mem_singleton] at h; rcases h with h | h <;> first | exact hp h | exact absurd h.symm e1)
            · first | rfl | (rw [htk, List.mem_append, List.mem_singleton] at h; rcases h with h | h <;> first | exact hq h | exact absurd h.symm e2)
            (repeat (first | exact agree_mask _ _ _ | refine agree_upd rfl ?_ | refine agree_mask2 rfl ?_))
          · have n2 : ¬ NR.mk (nR x).neg (nR x).mag (nR x).e = NR.mk (nR HI).neg (nR HI).mag (nR HI).e := fun h => e2 (nR_inj.1 h)
            refine wc_seq ?_
            refine wc_region ?_
            first | refine s_lss_t rfl rfl (by omega) (by decide) ?_ | refine s_lss_f rfl rfl (by omega) (by decide) ?_ | refine s_lss_v rfl rfl (by decide) ?_
            refine wl_end ?_
            refine wc_seq ?_
            refine wc_cond_t rfl ?_
            refine wc_skip ?_
            refine k_then ?_
            refine wc_seq ?_
            refine wc_block ?_
            refine wc_seq ?_
            refine wc_region ?_
            refine s_index_arr (i := i) UIs.out TIs.out rfl rfl (by omega) (by first | assumption | rfl) (by decide) ?_
            refine wl_alloc hh TIs.out (by decide) ?_
            intro b14 w14 hh
            refine wl_store hh (i := 0) (vs := [_, _, _]) rfl rfl rfl rfl TIs.out rfl (by simp) rfl ?_
            intro ws hh
            replace hh : Hp _ (.blk _ _ [_, _, _] _ :: _) _ := hh
            refine wl_end ?_
            refine wc_seq ?_
            refine wc_seq ?_
            refine wc_region ?_
            refine s_load (vs := [_, _, _]) TIs.out rfl (hh.rd_blk_at (i := 2) (n := 3) rfl rfl) rfl (by decide) ?_
            refine s_load (vs := [_, _, _]) TIs.out rfl (hh.rd_blk_at (i := 0) (n := 3) rfl rfl) rfl (by decide) ?_
            -- at some 101 := Op.call { callee := Callee.value (Operand.func 13), args := #[Operand.tmp 99, Operand.tmp 
            refine s_callf (hk1 _ (hT.hp hh)) FnIs.out rfl (by decide) ?_
            rintro e_ w101 ⟨rfl, hb_⟩
            refine ⟨_, rfl, ?_⟩
            replace hh := hh.ext hb_
            first | refine s_gtr_t rfl rfl (by omega) (by decide) ?_ | refine s_gtr_f rfl rfl (by omega) (by decide) ?_ | refine s_gtr_v rfl rfl (by decide) ?_
            refine s_move (ev_bool rfl) (by decide) ?_
            first | (refine wl_guard_skip (by decide) rfl rfl (by decide) ?_) | (refine wl_guard_take rfl rfl ?_; (refine s_load (vs := [_, _, _]) TIs.out rfl (hh.rd_blk_at (i := 1) (n := 3) rfl rfl) rfl (by decide) ?_)) | (refine wl_guard_skipV (by decide) rfl rfl ?_)
            first | (refine wl_guard_skip (by decide) rfl rfl (by decide) ?_) | (refine wl_guard_take rfl rfl ?_; (refine s_load (vs := [_, _, _]) TIs.out rfl (hh.rd_blk_at (i := 0) (n := 3) rfl rfl) rfl (by decide) ?_)) | (refine wl_guard_skipV (by decide) rfl rfl ?_)
            -- at guarded Op.call { callee := Callee.value (Operand.func 13), args := #[Operand.tmp 104, O
            refine wl_guard_take rfl rfl ?_
            refine s_callf (hk2 _ (hT.hp hh)) FnIs.out rfl (by decide) ?_
            rintro e_ w106 ⟨rfl, hb_⟩
            refine ⟨_, rfl, ?_⟩
            replace hh := hh.ext hb_
            first | (refine wl_guard_skip (by decide) rfl rfl (by decide) ?_) | (refine wl_guard_take rfl rfl ?_; (first | refine s_lss_t rfl rfl (by omega) (by decide) ?_ | refine s_lss_f rfl rfl (by omega) (by decide) ?_ | refine s_lss_v rfl rfl (by decide) ?_)) | (refine wl_guard_skipV (by decide) rfl rfl ?_)
            first | refine s_pick_t rfl (ev_bool rfl) (by decide) ?_ | refine s_pick_f rfl (ev_bool rfl) (by decide) ?_
            refine wl_end ?_
            refine wc_cond_f rfl ?_
            refine wc_skip ?_
            refine k_then ?_
            refine wc_seq ?_
            refine wc_seq ?_
            refine wc_region ?_
            refine s_load (vs := [_, _, _]) TIs.out rfl (hh.rd_blk_at (i := 0) (n := 3) rfl rfl) rfl (by decide) ?_
            refine s_load (vs := [_, _, _]) TIs.out rfl (hh.rd_blk_at (i := 2) (n := 3) rfl rfl) rfl (by decide) ?_
            first | refine s_eqN_t rfl rfl (by first | assumption | rfl) (by decide) ?_ | refine s_eqN_f rfl rfl (by assumption) (by decide) ?_
            refine wl_end ?_
            -- at if Operand.tmp 111
            refine wc_cond_t rfl ?_
            refine wc_region ?_
            refine s_move (ev_int rfl) (by decide) ?_
            -- at some 113 := Op.binOp BinOp.or 3 (Operand.tmp 112) (Operand.const (Value.int IntKind.i64 1)) 3
            refine s_or4 (a := p.toNat + 2 * q.toNat) (b := 1) rfl rfl (p1 _ _) (by omega) (by decide) ?_
            rw [p2]
            refine s_assign (ev_int rfl) (by decide) ?_
            refine wl_end ?_
            refine wc_seq ?_
            refine wc_region ?_
            refine s_load (vs := [_, _, _]) TIs.out rfl (hh.rd_blk_at (i := 0) (n := 3) rfl rfl) rfl (by decide) ?_
            refine s_load (vs := [_, _, _]) TIs.out rfl (hh.rd_blk_at (i := 1) (n := 3) rfl rfl) rfl (by decide) ?_
            first | refine s_eqN_t rfl rfl (by first | assumption | rfl) (by decide) ?_ | refine s_eqN_f rfl rfl (by assumption) (by decide) ?_
            refine wl_end ?_
            refine wc_cond_f rfl ?_
            refine wc_skip ?_
            refine b_norm ?_
            refine k_then ?_
            refine wc_region ?_
            refine s_addi rfl rfl (by omega) (by omega) (by decide) ?_
            refine s_move (ev_int rfl) (by decide) ?_
            refine wl_nil ?_
            refine k_then ?_
            -- at ('round',)
            replace hh := hh.sub (List.Sublist.cons _ (List.Sublist.cons_cons _ (List.Sublist.cons_cons _ (List.Sublist.cons_cons _ List.Sublist.slnil))))
            refine ⟨⟨i + 1, true, q, by omega, rfl, rfl, fun h => ?_, fun h => ?_, hh⟩, by show 3 - (i + 1) < 3 - i; omega, ?_⟩
            · first | rfl | (rw [htk, List.mem_append, List.mem_singleton] at h; rcases h with h | h <;> first | exact hp h | exact absurd h.symm e1)
            · first | rfl | (rw [htk, List.mem_append, List.mem_singleton] at h; rcases h with h | h <;> first | exact hq h | exact absurd h.symm e2)
            (repeat (first | exact agree_mask _ _ _ | refine agree_upd rfl ?_ | refine agree_mask2 rfl ?_))
        · have n1 : ¬ NR.mk (nR x).neg (nR x).mag (nR x).e = NR.mk (nR LO).neg (nR LO).mag (nR LO).e := fun h => e1 (nR_inj.1 h)
          by_cases e2 : x = HI
          · have n2 : NR.mk (nR x).neg (nR x).mag (nR x).e = NR.mk (nR HI).neg (nR HI).mag (nR HI).e := by rw [e2]
            refine wc_seq ?_
            refine wc_region ?_
            first | refine s_lss_t rfl rfl (by omega) (by decide) ?_ | refine s_lss_f rfl rfl (by omega) (by decide) ?_ | refine s_lss_v rfl rfl (by decide) ?_
            refine wl_end ?_
            refine wc_seq ?_
            refine wc_cond_t rfl ?_
            refine wc_skip ?_
            refine k_then ?_
            refine wc_seq ?_
            refine wc_block ?_
            refine wc_seq ?_
            refine wc_region ?_
            refine s_index_arr (i := i) UIs.out TIs.out rfl rfl (by omega) (by first | assumption | rfl) (by decide) ?_
            refine wl_alloc hh TIs.out (by decide) ?_
            intro b14 w14 hh
            refine wl_store hh (i := 0) (vs := [_, _, _]) rfl rfl rfl rfl TIs.out rfl (by simp) rfl ?_
            intro ws hh
            replace hh : Hp _ (.blk _ _ [_, _, _] _ :: _) _ := hh
            refine wl_end ?_
            refine wc_seq ?_
            refine wc_seq ?_
            refine wc_region ?_
            refine s_load (vs := [_, _, _]) TIs.out rfl (hh.rd_blk_at (i := 2) (n := 3) rfl rfl) rfl (by decide) ?_
            refine s_load (vs := [_, _, _]) TIs.out rfl (hh.rd_blk_at (i := 0) (n := 3) rfl rfl) rfl (by decide) ?_
            -- at some 101 := Op.call { callee := Callee.value (Operand.func 13), args := #[Operand.tmp 99, Operand.tmp 
            refine s_callf (hk1 _ (hT.hp hh)) FnIs.out rfl (by decide) ?_
            rintro e_ w101 ⟨rfl, hb_⟩
            refine ⟨_, rfl, ?_⟩
            replace hh := hh.ext hb_
            first | refine s_gtr_t rfl rfl (by omega) (by decide) ?_ | refine s_gtr_f rfl rfl (by omega) (by decide) ?_ | refine s_gtr_v rfl rfl (by decide) ?_
            refine s_move (ev_bool rfl) (by decide) ?_
            first | (refine wl_guard_skip (by decide) rfl rfl (by decide) ?_) | (refine wl_guard_take rfl rfl ?_; (refine s_load (vs := [_, _, _]) TIs.out rfl (hh.rd_blk_at (i := 1) (n := 3) rfl rfl) rfl (by decide) ?_)) | (refine wl_guard_skipV (by decide) rfl rfl ?_)
            first | (refine wl_guard_skip (by decide) rfl rfl (by decide) ?_) | (refine wl_guard_take rfl rfl ?_; (refine s_load (vs := [_, _, _]) TIs.out rfl (hh.rd_blk_at (i := 0) (n := 3) rfl rfl) rfl (by decide) ?_)) | (refine wl_guard_skipV (by decide) rfl rfl ?_)
            -- at guarded Op.call { callee := Callee.value (Operand.func 13), args := #[Operand.tmp 104, O
            refine wl_guard_take rfl rfl ?_
            refine s_callf (hk2 _ (hT.hp hh)) FnIs.out rfl (by decide) ?_
            rintro e_ w106 ⟨rfl, hb_⟩
            refine ⟨_, rfl, ?_⟩
            replace hh := hh.ext hb_
            first | (refine wl_guard_skip (by decide) rfl rfl (by decide) ?_) | (refine wl_guard_take rfl rfl ?_; (first | refine s_lss_t rfl rfl (by omega) (by decide) ?_ | refine s_lss_f rfl rfl (by omega) (by decide) ?_ | refine s_lss_v rfl rfl (by decide) ?_)) | (refine wl_guard_skipV (by decide) rfl rfl ?_)
            first | refine s_pick_t rfl (ev_bool rfl) (by decide) ?_ | refine s_pick_f rfl (ev_bool rfl) (by decide) ?_
            refine wl_end ?_
            refine wc_cond_f rfl ?_
            refine wc_skip ?_
            refine k_then ?_
            refine wc_seq ?_
            refine wc_seq ?_
            refine wc_region ?_
            refine s_load (vs := [_, _, _]) TIs.out rfl (hh.rd_blk_at (i := 0) (n := 3) rfl rfl) rfl (by decide) ?_
            refine s_load (vs := [_, _, _]) TIs.out rfl (hh.rd_blk_at (i := 2) (n := 3) rfl rfl) rfl (by decide) ?_
            first | refine s_eqN_t rfl rfl (by first | assumption | rfl) (by decide) ?_ | refine s_eqN_f rfl rfl (by assumption) (by decide) ?_
            refine wl_end ?_
            -- at if Operand.tmp 111
            refine wc_cond_f rfl ?_
            refine wc_skip ?_
            refine k_then ?_
            refine wc_seq ?_
            refine wc_region ?_
            refine s_load (vs := [_, _, _]) TIs.out rfl (hh.rd_blk_at (i := 0) (n := 3) rfl rfl) rfl (by decide) ?_
            refine s_load (vs := [_, _, _]) TIs.out rfl (hh.rd_blk_at (i := 1) (n := 3) rfl rfl) rfl (by decide) ?_
            first | refine s_eqN_t rfl rfl (by first | assumption | rfl) (by decide) ?_ | refine s_eqN_f rfl rfl (by assumption) (by decide) ?_
            refine wl_end ?_
            refine wc_cond_t rfl ?_
            refine wc_region ?_
            refine s_move (ev_int rfl) (by decide) ?_
            -- at some 118 := Op.binOp BinOp.or 3 (Operand.tmp 117) (Operand.const (Value.int IntKind.i64 2)) 3
            refine s_or4 (a := p.toNat + 2 * q.toNat) (b := 2) rfl rfl (p1 _ _) (by omega) (by decide) ?_
            rw [p3]
            refine s_assign (ev_int rfl) (by decide) ?_
            refine wl_nil ?_
            refine b_norm ?_
            refine k_then ?_
            refine wc_region ?_
            refine s_addi rfl rfl (by omega) (by omega) (by decide) ?_
            refine s_move (ev_int rfl) (by decide) ?_
            refine wl_nil ?_
            refine k_then ?_
            -- at ('round',)
            replace hh := hh.sub (List.Sublist.cons _ (List.Sublist.cons_cons _ (List.Sublist.cons_cons _ (List.Sublist.cons_cons _ List.Sublist.slnil))))
            refine ⟨⟨i + 1, p, true, by omega, rfl, rfl, fun h => ?_, fun h => ?_, hh⟩, by show 3 - (i + 1) < 3 - i; omega, ?_⟩
            · first | rfl | (rw [htk, List.mem_append, List.mem_singleton] at h; rcases h with h | h <;> first | exact hp h | exact absurd h.symm e1)
            · first | rfl | (rw [htk, List.mem_append, List.mem_singleton] at h; rcases h with h | h <;> first | exact hq h | exact absurd h.symm e2)
            (repeat (first | exact agree_mask _ _ _ | refine agree_upd rfl ?_ | refine agree_mask2 rfl ?_))
          · have n2 : ¬ NR.mk (nR x).neg (nR x).mag (nR x).e = NR.mk (nR HI).neg (nR HI).mag (nR HI).e := fun h => e2 (nR_inj.1 h)
            refine wc_seq ?_
            refine wc_region ?_
            first | refine s_lss_t rfl rfl (by omega) (by decide) ?_ | refine s_lss_f rfl rfl (by omega) (by decide) ?_ | refine s_lss_v rfl rfl (by decide) ?_
            refine wl_end ?_
            refine wc_seq ?_
            refine wc_cond_t rfl ?_
            refine wc_skip ?_
            refine k_then ?_
            refine wc_seq ?_
            refine wc_block ?_
            refine wc_seq ?_
            refine wc_region ?_
            refine s_index_arr (i := i) UIs.out TIs.out rfl rfl (by omega) (by first | assumption | rfl) (by decide) ?_
            refine wl_alloc hh TIs.out (by decide) ?_
            intro b14 w14 hh
            refine wl_store hh (i := 0) (vs := [_, _, _]) rfl rfl rfl rfl TIs.out rfl (by simp) rfl ?_
            intro ws hh
            replace hh : Hp _ (.blk _ _ [_, _, _] _ :: _) _ := hh
            refine wl_end ?_
            refine wc_seq ?_
            refine wc_seq ?_
            refine wc_region ?_
            refine s_load (vs := [_, _, _]) TIs.out rfl (hh.rd_blk_at (i := 2) (n := 3) rfl rfl) rfl (by decide) ?_
            refine s_load (vs := [_, _, _]) TIs.out rfl (hh.rd_blk_at (i := 0) (n := 3) rfl rfl) rfl (by decide) ?_
            -- at some 101 := Op.call { callee := Callee.value (Operand.func 13), args := #[Operand.tmp 99, Operand.tmp 
            refine s_callf (hk1 _ (hT.hp hh)) FnIs.out rfl (by decide) ?_
            rintro e_ w101 ⟨rfl, hb_⟩
            refine ⟨_, rfl, ?_⟩
            replace hh := hh.ext hb_
            first | refine s_gtr_t rfl rfl (by omega) (by decide) ?_ | refine s_gtr_f rfl rfl (by omega) (by decide) ?_ | refine s_gtr_v rfl rfl (by decide) ?_
            refine s_move (ev_bool rfl) (by decide) ?_
            first | (refine wl_guard_skip (by decide) rfl rfl (by decide) ?_) | (refine wl_guard_take rfl rfl ?_; (refine s_load (vs := [_, _, _]) TIs.out rfl (hh.rd_blk_at (i := 1) (n := 3) rfl rfl) rfl (by decide) ?_)) | (refine wl_guard_skipV (by decide) rfl rfl ?_)
            first | (refine wl_guard_skip (by decide) rfl rfl (by decide) ?_) | (refine wl_guard_take rfl rfl ?_; (refine s_load (vs := [_, _, _]) TIs.out rfl (hh.rd_blk_at (i := 0) (n := 3) rfl rfl) rfl (by decide) ?_)) | (refine wl_guard_skipV (by decide) rfl rfl ?_)
            -- at guarded Op.call { callee := Callee.value (Operand.func 13), args := #[Operand.tmp 104, O
            refine wl_guard_take rfl rfl ?_
            refine s_callf (hk2 _ (hT.hp hh)) FnIs.out rfl (by decide) ?_
            rintro e_ w106 ⟨rfl, hb_⟩
            refine ⟨_, rfl, ?_⟩
            replace hh := hh.ext hb_
            first | (refine wl_guard_skip (by decide) rfl rfl (by decide) ?_) | (refine wl_guard_take rfl rfl ?_; (first | refine s_lss_t rfl rfl (by omega) (by decide) ?_ | refine s_lss_f rfl rfl (by omega) (by decide) ?_ | refine s_lss_v rfl rfl (by decide) ?_)) | (refine wl_guard_skipV (by decide) rfl rfl ?_)
            first | refine s_pick_t rfl (ev_bool rfl) (by decide) ?_ | refine s_pick_f rfl (ev_bool rfl) (by decide) ?_
            refine wl_end ?_
            refine wc_cond_f rfl ?_
            refine wc_skip ?_
            refine k_then ?_
            refine wc_seq ?_
            refine wc_seq ?_
            refine wc_region ?_
            refine s_load (vs := [_, _, _]) TIs.out rfl (hh.rd_blk_at (i := 0) (n := 3) rfl rfl) rfl (by decide) ?_
            refine s_load (vs := [_, _, _]) TIs.out rfl (hh.rd_blk_at (i := 2) (n := 3) rfl rfl) rfl (by decide) ?_
            first | refine s_eqN_t rfl rfl (by first | assumption | rfl) (by decide) ?_ | refine s_eqN_f rfl rfl (by assumption) (by decide) ?_
            refine wl_end ?_
            -- at if Operand.tmp 111
            refine wc_cond_f rfl ?_
            refine wc_skip ?_
            refine k_then ?_
            refine wc_seq ?_
            refine wc_region ?_
            refine s_load (vs := [_, _, _]) TIs.out rfl (hh.rd_blk_at (i := 0) (n := 3) rfl rfl) rfl (by decide) ?_
            refine s_load (vs := [_, _, _]) TIs.out rfl (hh.rd_blk_at (i := 1) (n := 3) rfl rfl) rfl (by decide) ?_
            first | refine s_eqN_t rfl rfl (by first | assumption | rfl) (by decide) ?_ | refine s_eqN_f rfl rfl (by assumption) (by decide) ?_
            refine wl_end ?_
            refine wc_cond_f rfl ?_
            refine wc_skip ?_
            refine b_norm ?_
            refine k_then ?_
            refine wc_region ?_
            refine s_addi rfl rfl (by omega) (by omega) (by decide) ?_
            refine s_move (ev_int rfl) (by decide) ?_
            refine wl_nil ?_
            refine k_then ?_
            -- at ('round',)
            replace hh := hh.sub (List.Sublist.cons _ (List.Sublist.cons_cons _ (List.Sublist.cons_cons _ (List.Sublist.cons_cons _ List.Sublist.slnil))))
            refine ⟨⟨i + 1, p, q, by omega, rfl, rfl, fun h => ?_, fun h => ?_, hh⟩, by show 3 - (i + 1) < 3 - i; omega, ?_⟩
            · first | rfl | (rw [htk, List.mem_append, List.mem_singleton] at h; rcases h with h | h <;> first | exact hp h | exact absurd h.symm e1)
            · first | rfl | (rw [htk, List.mem_append, List.mem_singleton] at h; rcases h with h | h <;> first | exact hq h | exact absurd h.symm e2)
            (repeat (first | exact agree_mask _ _ _ | refine agree_upd rfl ?_ | refine agree_mask2 rfl ?_))
      · have hi3 : i = 3 := by omega
        subst hi3
        obtain rfl : p = true := hp (by simpa using lo1)
        obtain rfl : q = true := hq (by simpa using hi1)
        have hab := fun w1 hT1 => dAbs_calls a w1 hT1 (by omega) (by omega) (by omega)
        have hsg := fun w1 => dSign_calls (nR (if a.d < 0 then -a.d else a.d)) w1
        have hs0 : 0 ≤ (nR (if a.d < 0 then -a.d else a.d)).i.sign := by
          rw [NR.sign, nR_d]
          unfold cmpD
          split <;> (try split) <;> first | omega | (exfalso; split at * <;> grind)
        generalize (nR (if a.d < 0 then -a.d else a.d)).i.sign = sg at *
        refine wc_seq ?_
        refine wc_region ?_
        first | refine s_lss_t rfl rfl (by omega) (by decide) ?_ | refine s_lss_f rfl rfl (by omega) (by decide) ?_ | refine s_lss_v rfl rfl (by decide) ?_
        refine wl_end ?_
        refine wc_seq ?_
        refine wc_cond_f rfl ?_
        refine wc_exit ?_
        refine k_exit ?_
        refine k_exit ?_
        refine b_here ?_
        refine k_then ?_
        refine wc_seq ?_
        refine wc_region ?_
        refine s_move (ev_int rfl) (by decide) ?_
        first | refine s_eql_t rfl rfl (by omega) (by decide) ?_ | refine s_eql_f rfl rfl (by omega) (by decide) ?_ | refine s_eql_v rfl rfl (by decide) ?_
        refine s_move (ev_bool rfl) (by decide) ?_
        first | (refine wl_guard_skip (by decide) rfl rfl (by decide) ?_) | (refine wl_guard_take rfl rfl ?_; (refine s_load (vs := [_, _, _]) TIs.out rfl (hh.rd_blk_at (i := 2) (n := 3) rfl rfl) rfl (by decide) ?_)) | (refine wl_guard_skipV (by decide) rfl rfl ?_)
        -- at guarded Op.call { callee := Callee.value (Operand.func 21), args := #[Operand.tmp 123], 
        refine wl_guard_take rfl rfl ?_
        refine s_callf (hab _ (hT.hp hh)) FnIs.out rfl (by decide) ?_
        rintro e_ w124 ⟨rfl, hb_⟩
        refine ⟨_, rfl, ?_⟩
        replace hh := hh.ext hb_
        -- at guarded Op.call { callee := Callee.value (Operand.func 19), args := #[Operand.tmp 124], 
        refine wl_guard_take rfl rfl ?_
        refine s_callf (hsg _) FnIs.out rfl (by decide) ?_
        rintro e_ w125 ⟨rfl, hb_⟩
        refine ⟨_, rfl, ?_⟩
        replace hh := hh.ext hb_
        first | (refine wl_guard_skip (by decide) rfl rfl (by decide) ?_) | (refine wl_guard_take rfl rfl ?_; (first | refine s_geq_t rfl rfl (by omega) (by decide) ?_ | refine s_geq_f rfl rfl (by omega) (by decide) ?_ | refine s_geq_v rfl rfl (by decide) ?_)) | (refine wl_guard_skipV (by decide) rfl rfl ?_)
        first | refine s_pick_t rfl (ev_bool rfl) (by decide) ?_ | refine s_pick_f rfl (ev_bool rfl) (by decide) ?_
        refine s_move (ev_bool rfl) (by decide) ?_
        -- at guarded Op.call { callee := Callee.value (Operand.func 12), args := #[], argTypes := #[]
        refine wl_guard_take rfl rfl ?_
        refine s_callf (awake_calls _ (hT.hp hh)) FnIs.out rfl (by decide) ?_
        rintro e_ w129 ⟨rfl, hb_⟩
        refine ⟨_, rfl, ?_⟩
        replace hh := hh.ext hb_
        first | refine s_pick_t rfl (ev_bool rfl) (by decide) ?_ | refine s_pick_f rfl (ev_bool rfl) (by decide) ?_
        refine s_assign (ev_bool rfl) (by decide) ?_
        refine wl_end ?_
        refine wc_ret ?_
        -- at ('end', 'ret')
        refine ret1 (by first | exact .inr rfl | exact .inl rfl) rfl (v_bool rfl) ?_
        exact ⟨rfl, hh.below⟩
end Go.Proofs.YthmmofllajkejaaGreatDoor
