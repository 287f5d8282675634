/- The walk through the law DyadRing. -/
import Derived.Test.YtgljgalcbbjfgaaDoorLawD
import Derived.Test.YtgljgalcbbjfgaaDoorDrawC
namespace Go.Proofs.YtgljgalcbbjfgaaDoor
open Go.RowKit
-- umode
-- cast
theorem short {most far : Int} {l : List NR} (h : longB most far l = false) : ∀ a ∈ l, (a.mag.size : Int) ≤ most ∧ -far ≤ a.e ∧ a.e ≤ far := fun a ha => by
  have := List.any_eq_false.1 h a ha
  simp only [decide_eq_true_eq, not_or] at this
  omega
theorem short_sz {most far : Nat} {a : NR} (h : (a.mag.size : Int) ≤ most ∧ -(far : Int) ≤ a.e ∧ a.e ≤ far) : Sz (8 * most + far) a.d := Sz.raw (m := 8 * most) (E := far) (by omega) h.2.1 h.2.2
theorem add2 (u v : NR) (V : Dyadic) (hV : u.d + v.d = V) (hu : u.ok) (hv : v.ok) (ku : Sz 12000 u.d) (kv : Sz 12000 v.d) (A : Option Addr) (c : Nat) (w : World) (hT : Tab w) (hS : Sl w A 2 3 (recs NR.cells [u, v])) :
    Calls Tryd.prog 7 #[.slice A 2 c] w fun r w' => r = .returned (.agg #[.bool (nR (V)).neg, .string (nR (V)).mag, .int .i64 (nR (V)).e]) ∧ Below w.heap.size w w' := by
  have := dAdd_calls A 2 c [u, v] w hT hS (by simpa using ⟨hu, hv⟩) 12000 (by simpa using ⟨ku, kv⟩) (by omega)
  rw [show sumD ([u, v].map NR.d) = V by rw [← hV, List.map_cons, List.map_cons, List.map_nil, sumD_two]] at this
  exact this
theorem add3 (u v x : NR) (V : Dyadic) (hV : u.d + v.d + x.d = V) (hu : u.ok) (hv : v.ok) (hx : x.ok) (ku : Sz 12000 u.d) (kv : Sz 12000 v.d) (kx : Sz 12000 x.d) (A : Option Addr) (c : Nat) (w : World) (hT : Tab w) (hS : Sl w A 3 3 (recs NR.cells [u, v, x])) :
    Calls Tryd.prog 7 #[.slice A 3 c] w fun r w' => r = .returned (.agg #[.bool (nR (V)).neg, .string (nR (V)).mag, .int .i64 (nR (V)).e]) ∧ Below w.heap.size w w' := by
  have := dAdd_calls A 3 c [u, v, x] w hT hS (by simpa using ⟨hu, hv, hx⟩) 12000 (by simpa using ⟨ku, kv, kx⟩) (by omega)
  rw [show sumD ([u, v, x].map NR.d) = V by rw [← hV]; show 0 + u.d + v.d + x.d = _; rw [Dyadic.zero_add]] at this
  exact this
theorem mul2 (u v : NR) (V : Dyadic) (hV : u.d * v.d = V) (hu : u.ok) (hv : v.ok) (ku : Sz 12000 u.d) (kv : Sz 12000 v.d) (A : Option Addr) (c : Nat) (w : World) (hT : Tab w) (hS : Sl w A 2 3 (recs NR.cells [u, v])) :
    Calls Tryd.prog 8 #[.slice A 2 c] w fun r w' => r = .returned (.agg #[.bool (nR (V)).neg, .string (nR (V)).mag, .int .i64 (nR (V)).e]) ∧ Below w.heap.size w w' := by
  have := dMul_calls A 2 c [u, v] w hT hS (by simpa using ⟨hu, hv⟩) 12000 (by simpa using ⟨ku, kv⟩) (by omega) (by omega)
  rw [show prodD ([u, v].map NR.d) = V by rw [← hV]; show 1 * u.d * v.d = _; rw [Dyadic.one_mul]] at this
  exact this
theorem dyadRing_calls (a b c : NR) (w : World) (hT : Tab w) :
    Calls Tryd.prog 3 #[.agg #[.bool a.neg, .string a.mag, .int .i64 a.e], .agg #[.bool b.neg, .string b.mag, .int .i64 b.e], .agg #[.bool c.neg, .string c.mag, .int .i64 c.e]] w fun r w' => r = .returned (.bool true) ∧ Below w.heap.size w w' := by
  have hh := Hp.start w
  cases hlg : longB 150 500 [a, b, c] with
  | true =>
    refine calls_vc (N := 136) (l := [.agg #[.bool a.neg, .string a.mag, .int .i64 a.e], .agg #[.bool b.neg, .string b.mag, .int .i64 b.e], .agg #[.bool c.neg, .string c.mag, .int .i64 c.e]]) Tryd.func3 rfl rfl (by simp) ?_
    refine wc_seq ?_
    refine wc_region ?_
    refine wl_box hh (cs := [_, _, _]) rfl rfl (by decide) ?_
    intro b3 w3 hh
    refine wl_box hh (cs := [_, _, _]) rfl rfl (by decide) ?_
    intro b4 w4 hh
    refine wl_box hh (cs := [_, _, _]) rfl rfl (by decide) ?_
    intro b5 w5 hh
    refine s_assign (ev_bool rfl) (by decide) ?_
    refine wl_end ?_
    refine wc_seq ?_
    refine wc_seq ?_
    refine wc_region ?_
    refine s_load (vs := [_, _, _]) TIs.out rfl (hh.rd_blk_at (i := 2) (n := 3) rfl rfl) rfl (by decide) ?_
    refine s_load (vs := [_, _, _]) TIs.out rfl (hh.rd_blk_at (i := 1) (n := 3) rfl rfl) rfl (by decide) ?_
    refine s_load (vs := [_, _, _]) TIs.out rfl (hh.rd_blk_at (i := 0) (n := 3) rfl rfl) rfl (by decide) ?_
    refine wl_buildSlice hh (cs := [_, _, _, _, _, _, _, _, _]) UIs.out TIs.out (evp_cons (ev_agg rfl) (evp_cons (ev_agg rfl) (evp_cons (ev_agg rfl) evp_nil))) rfl rfl (by decide) (by decide) (by decide) rfl (by decide) ?_
    intro b13 w13 hh
    -- at some 14 := Op.call { callee := Callee.value (Operand.func 5), args := #[Operand.const (Value.int IntK
    refine s_callf (long_calls 150 500 _ 3 _ [a, b, c] _ (hh.sl_row (i := 0) rfl) (by omega) (by omega) (by omega)) FnIs.out rfl (by decide) ?_
    rintro e_ w14 ⟨rfl, hb_⟩
    refine ⟨_, rfl, ?_⟩
    replace hh := hh.ext hb_
    rw [hlg]
    refine wl_end ?_
    refine wc_cond_t rfl ?_
    refine wc_seq ?_
    refine wc_region ?_
    -- at some 15 := Op.call { callee := Callee.value (Operand.func 6), args := #[], argTypes := #[] }
    refine s_callf (awake_calls _ (hT.hp hh)) FnIs.out rfl (by decide) ?_
    rintro e_ w15 ⟨rfl, hb_⟩
    refine ⟨_, rfl, ?_⟩
    replace hh := hh.ext hb_
    refine s_assign (ev_bool rfl) (by decide) ?_
    refine wl_end ?_
    refine wc_ret ?_
    refine k_ret ?_
    -- at ('end', 'ret')
    refine ret1 (by first | exact .inr rfl | exact .inl rfl) rfl (v_bool rfl) ?_
    exact ⟨rfl, hh.below⟩
  | false =>
    have hsa := short hlg a (by simp)
    have hsb := short hlg b (by simp)
    have hsc := short hlg c (by simp)
    have ka0 : Sz 1700 a.d := short_sz (most := 150) (far := 500) hsa
    have kb0 : Sz 1700 b.d := short_sz (most := 150) (far := 500) hsb
    have kc0 : Sz 1700 c.d := short_sz (most := 150) (far := 500) hsc
    have oa : a.ok := ⟨by omega, by omega, by omega⟩
    have ob : b.ok := ⟨by omega, by omega, by omega⟩
    have oc : c.ok := ⟨by omega, by omega, by omega⟩
    have ka : Sz 12000 a.d := ka0.mono (by omega)
    have kb : Sz 12000 b.d := kb0.mono (by omega)
    have kc : Sz 12000 c.d := kc0.mono (by omega)
    have g : ∀ {x : Dyadic}, Sz 12000 x → Sz 12000 (nR x).d := fun h => by rw [nR_d]; exact h
    have kt : Sz 9 (twoD (-1)) := Sz.two (k := 1) (by omega) (by omega)
    have k1 : Sz 12000 (a.d + b.d) := (ka0.add kb0).mono (by omega)
    have k2 : Sz 12000 (a.d * b.d) := (ka0.mul kb0).mono (by omega)
    have k3 : Sz 12000 (b.d + c.d) := (kb0.add kc0).mono (by omega)
    have k4 : Sz 12000 (b.d * c.d) := (kb0.mul kc0).mono (by omega)
    have k5 : Sz 12000 (a.d * c.d) := (ka0.mul kc0).mono (by omega)
    have k6 : Sz 12000 (a.d * twoD (-1)) := (ka0.mul kt).mono (by omega)
    have k7 : Sz 12000 (-a.d) := ka0.neg.mono (by omega)
    have o : ∀ {x : Dyadic}, Sz 12000 x → (nR x).ok := fun h => h.ok (by omega)
    have h2 : twoD (-1) + twoD (-1) = 1 := by decide +kernel
    have hfm := fun w1 hT1 => dForm_calls a w1 hT1 (by omega) (by omega) (by omega)
    have hfs := fun w1 hT1 => dForm_calls (nR (a.d + b.d)) w1 hT1 (by have := (o k1).1; omega) (by have := (o k1).2; omega) (by have := (o k1).2; omega)
    have hfp := fun w1 hT1 => dForm_calls (nR (a.d * b.d)) w1 hT1 (by have := (o k2).1; omega) (by have := (o k2).2; omega) (by have := (o k2).2; omega)
    have hsub := fun w1 hT1 => dSub_calls (nR (a.d + b.d)) b w1 hT1 (o k1) ob 12000 (g k1) kb (by omega)
    have hng := fun w1 hT1 => dNeg_calls a w1 hT1 (by omega) (by omega) (by omega)
    have hhalf := fun w1 hT1 => dShift_calls a (-1) w1 hT1 (by omega) (by omega) (by omega) (by omega) (by omega)
    rw [nR_d] at hfs hfp hsub
    rw [show a.d + b.d - b.d = a.d by grind] at hsub
    refine calls_vc (N := 136) (l := [.agg #[.bool a.neg, .string a.mag, .int .i64 a.e], .agg #[.bool b.neg, .string b.mag, .int .i64 b.e], .agg #[.bool c.neg, .string c.mag, .int .i64 c.e]]) Tryd.func3 rfl rfl (by simp) ?_
    refine wc_seq ?_
    refine wc_region ?_
    refine wl_box hh (cs := [_, _, _]) rfl rfl (by decide) ?_
    intro b3 w3 hh
    refine wl_box hh (cs := [_, _, _]) rfl rfl (by decide) ?_
    intro b4 w4 hh
    refine wl_box hh (cs := [_, _, _]) rfl rfl (by decide) ?_
    intro b5 w5 hh
    refine s_assign (ev_bool rfl) (by decide) ?_
    refine wl_end ?_
    refine wc_seq ?_
    refine wc_seq ?_
    refine wc_region ?_
    refine s_load (vs := [_, _, _]) TIs.out rfl (hh.rd_blk_at (i := 2) (n := 3) rfl rfl) rfl (by decide) ?_
    refine s_load (vs := [_, _, _]) TIs.out rfl (hh.rd_blk_at (i := 1) (n := 3) rfl rfl) rfl (by decide) ?_
    refine s_load (vs := [_, _, _]) TIs.out rfl (hh.rd_blk_at (i := 0) (n := 3) rfl rfl) rfl (by decide) ?_
    refine wl_buildSlice hh (cs := [_, _, _, _, _, _, _, _, _]) UIs.out TIs.out (evp_cons (ev_agg rfl) (evp_cons (ev_agg rfl) (evp_cons (ev_agg rfl) evp_nil))) rfl rfl (by decide) (by decide) (by decide) rfl (by decide) ?_
    intro b13 w13 hh
    -- at some 14 := Op.call { callee := Callee.value (Operand.func 5), args := #[Operand.const (Value.int IntK
    refine s_callf (long_calls 150 500 _ 3 _ [a, b, c] _ (hh.sl_row (i := 0) rfl) (by omega) (by omega) (by omega)) FnIs.out rfl (by decide) ?_
    rintro e_ w14 ⟨rfl, hb_⟩
    refine ⟨_, rfl, ?_⟩
    replace hh := hh.ext hb_
    rw [hlg]
    refine wl_end ?_
    refine wc_cond_f rfl ?_
    refine wc_skip ?_
    refine k_then ?_
    refine wc_seq ?_
    -- at the drawn region 3
    refine wc_drawn2 [8, 9] [] [0, 0, 3, 7, 0, 0, 48, 127, 0, 0, 1023, 2047] 10 [[(3, none)], [(4, none)], [(16, some 0), (17, some 1)], [(18, some 2)], [(3, none)], [(4, none)], [(20, some 4), (21, some 5)], [(22, some 6)], [], []] [(9, 8), (8, 7), (7, 23), (6, 22), (5, 21), (4, 20), (3, 19), (2, 18), (1, 17), (0, 16)] hh mixed (by kernel_rfl) (alok_cons rfl TIs.out (alok_cons rfl TIs.out alok_nil)) rfl (by repeat (first | exact np_ret | refine np_then ?_ | refine np_blk ?_)) ?_
    refine dx_val (i := 0) (fun ρ1 w1 hj hR => x_load (vs := [_, _, _]) TIs.out (show ρ1 3 = Value.pointer _ from hR.1) (hj.hp.rd_blk_at (i := 3) (n := 3) rfl rfl) rfl) ?_
    refine dx_val (i := 1) (fun ρ1 w1 hj hR => x_load (vs := [_, _, _]) TIs.out (show ρ1 4 = Value.pointer _ from hR.1) (hj.hp.rd_blk_at (i := 2) (n := 3) rfl rfl) rfl) ?_
    refine dx_buildSlice (i := 2) (cs := [_, _, _, _, _, _]) UIs.out TIs.out (fun ρ1 w1 hj hR => (evp_cons (show ρ1 16 = Value.agg (List.toArray _) from hR.1) (evp_cons (show ρ1 17 = Value.agg (List.toArray _) from hR.2.1) evp_nil))) rfl rfl (by decide) (by decide) rfl ?_
    refine dx_gen (i := 3) (Is (.agg #[.bool (nR (a.d + b.d)).neg, .string (nR (a.d + b.d)).mag, .int .i64 (nR (a.d + b.d)).e])) Is.ext ?_ ?_
    · intro ρ1 w1 hj hR
      obtain ⟨A18, c18, h18, s18⟩ := hR.1
      exact og_enter rfl (run_callf FnIs.out (evs_cons h18 evs_nil)) (add2 a b (a.d + b.d) (by grind) oa ob ka kb A18 c18 _ (hT.hp hj.hp) s18) (fun _ _ hq => ⟨_, hq.1, hq.2, rfl⟩)
    refine dx_val (i := 4) (fun ρ1 w1 hj hR => x_load (vs := [_, _, _]) TIs.out (show ρ1 3 = Value.pointer _ from hR.1) (hj.hp.rd_blk_at (i := 3) (n := 3) rfl rfl) rfl) ?_
    refine dx_val (i := 5) (fun ρ1 w1 hj hR => x_load (vs := [_, _, _]) TIs.out (show ρ1 4 = Value.pointer _ from hR.1) (hj.hp.rd_blk_at (i := 2) (n := 3) rfl rfl) rfl) ?_
    refine dx_buildSlice (i := 6) (cs := [_, _, _, _, _, _]) UIs.out TIs.out (fun ρ1 w1 hj hR => (evp_cons (show ρ1 20 = Value.agg (List.toArray _) from hR.1) (evp_cons (show ρ1 21 = Value.agg (List.toArray _) from hR.2.1) evp_nil))) rfl rfl (by decide) (by decide) rfl ?_
    refine dx_gen (i := 7) (Is (.agg #[.bool (nR (a.d * b.d)).neg, .string (nR (a.d * b.d)).mag, .int .i64 (nR (a.d * b.d)).e])) Is.ext ?_ ?_
    · intro ρ1 w1 hj hR
      obtain ⟨A22, c22, h22, s22⟩ := hR.1
      exact og_enter rfl (run_callf FnIs.out (evs_cons h22 evs_nil)) (mul2 a b (a.d * b.d) (by grind) oa ob ka kb A22 c22 _ (hT.hp hj.hp) s22) (fun _ _ hq => ⟨_, hq.1, hq.2, rfl⟩)
    refine dx_gen (i := 8) (NewVar _ 25 _) NewVar.ext (fun ρ1 w1 hj hR => og_alloc TIs.out hj.bl (fun v w2 h hb => ⟨hb, h⟩)) ?_
    refine dx_gen (i := 9) (NewVar _ 25 _) NewVar.ext (fun ρ1 w1 hj hR => og_alloc TIs.out hj.bl (fun v w2 h hb => ⟨hb, h⟩)) ?_
    refine dx_nil ?_
    intro f W hJ hV hD
    have hb_3 := hJ.bl
    obtain ⟨v8, v7, v23, v22, v21, v20, v19, v18, v17, v16, _⟩ := hV
    have e16 : f 0 = _ := v16
    have e17 : f 1 = _ := v17
    obtain ⟨A18, c18, e18, f18⟩ : Rows _ _ _ (f 2) W := v18
    have e19 : f 3 = _ := v19
    have e20 : f 4 = _ := v20
    have e21 : f 5 = _ := v21
    obtain ⟨A22, c22, e22, f22⟩ : Rows _ _ _ (f 6) W := v22
    have e23 : f 7 = _ := v23
    obtain ⟨b7, e7, hl7, hc7⟩ : NewVar _ _ _ (f 8) W := v7
    obtain ⟨b8, e8, hl8, hc8⟩ : NewVar _ _ _ (f 9) W := v8
    have hne := ptr_ne hD (i := 8) (j := 9) (by decide) (by decide) (by decide) e7 e8
    replace hh := hJ.newVar2 hh hl7 hc7 hl8 hc8 hne
    clear hD hne
    refine wl_cast (updL_K (eql_cons e8 (eql_cons e7 (eql_cons e23 (eql_cons e22 (eql_cons e21 (eql_cons e20 (eql_cons e19 (eql_cons e18 (eql_cons e17 (eql_cons e16 eql_nil))))))))))) ?_
    dsimp only [updK]
    clear e16 e17 e18 e19 e20 e21 e22 e23 e7 e8 hJ
    refine wl_store hh (i := 1) (vs := [_, _, _]) rfl rfl rfl rfl TIs.out rfl (by simp) rfl ?_
    intro ws hh
    replace hh : Hp _ (_ :: .blk _ _ [_, _, _] _ :: _) _ := hh
    refine wl_store hh (i := 0) (vs := [_, _, _]) rfl rfl rfl rfl TIs.out rfl (by simp) rfl ?_
    intro ws hh
    replace hh : Hp _ (.blk _ _ [_, _, _] _ :: _) _ := hh
    refine wl_end ?_
    refine wc_seq ?_
    refine wc_seq ?_
    -- at the drawn region 4
    refine wc_drawn2 [] [] [0, 0, 0, 6, 14, 31, 63, 127, 127, 127, 895, 1919, 4095, 8191, 16383, 32767, 32767, 131071, 262143, 32767, 32767, 32767, 3702783, 8388607, 16777215, 33554431, 67108863, 134217727, 134217727, 134217727, 939524095, 2013265919, 4294967295, 8589934591, 134217727, 134217727, 51673825279, 137438953471, 274877906943, 549755813887, 1099511627775, 2199023255551, 2199023255551, 8796093022207, 17592186044415, 2199023255551, 2199023255551, 2199023255551, 213305255788543, 527765581332479, 1125899906842623, 2251799813685247, 4503599627370495, 9007199254740991] 50 [[(7, none)], [(4, none)], [(3, none)], [(25, some 1), (26, some 2)], [(27, some 3)], [(24, some 0), (28, some 4)], [(29, some 5)], [(8, none), (30, some 6)], [(4, none), (30, some 6)], [(3, none), (30, some 6)], [(32, some 8), (33, some 9), (30, some 6)], [(34, some 10), (30, some 6)], [(31, some 7), (35, some 11), (30, some 6)], [(30, some 6), (36, some 12)], [(37, some 13)], [(7, none), (38, some 14)], [(5, none), (38, some 14)], [(39, some 15), (40, some 16), (38, some 14)], [(41, some 17), (38, some 14)], [(3, none), (38, some 14)], [(4, none), (38, some 14)], [(5, none), (38, some 14)], [(43, some 19), (44, some 20), (45, some 21), (38, some 14)], [(46, some 22), (38, some 14)], [(42, some 18), (47, some 23), (38, some 14)], [(38, some 14), (48, some 24)], [(49, some 25)], [(3, none), (50, some 26)], [(4, none), (50, some 26)], [(5, none), (50, some 26)], [(52, some 28), (53, some 29), (50, some 26)], [(54, some 30), (50, some 26)], [(51, some 27), (55, some 31), (50, some 26)], [(56, some 32), (50, some 26)], [(7, none), (50, some 26)], [(5, none), (50, some 26)], [(58, some 34), (59, some 35), (50, some 26)], [(60, some 36), (50, some 26)], [(57, some 33), (61, some 37), (50, some 26)], [(50, some 26), (62, some 38)], [(63, some 39)], [(8, none), (64, some 40)], [(5, none), (64, some 40)], [(65, some 41), (66, some 42), (64, some 40)], [(67, some 43), (64, some 40)], [(3, none), (64, some 40)], [(4, none), (64, some 40)], [(5, none), (64, some 40)], [(70, some 46), (71, some 47), (64, some 40)], [(72, some 48), (64, some 40)]] [(49, 73), (48, 72), (47, 71), (46, 70), (45, 69), (44, 68), (43, 67), (42, 66), (41, 65), (40, 64), (39, 63), (38, 62), (37, 61), (36, 60), (35, 59), (34, 58), (33, 57), (32, 56), (31, 55), (30, 54), (29, 53), (28, 52), (27, 51), (26, 50), (25, 49), (24, 48), (23, 47), (22, 46), (21, 45), (20, 44), (19, 43), (18, 42), (17, 41), (16, 40), (15, 39), (14, 38), (13, 37), (12, 36), (11, 35), (10, 34), (9, 33), (8, 32), (7, 31), (6, 30), (5, 29), (4, 28), (3, 27), (2, 26), (1, 25), (0, 24)] hh mixed (by kernel_rfl) alok_nil rfl (by repeat (first | exact np_ret | refine np_then ?_ | refine np_blk ?_)) ?_
    refine dx_val (i := 0) (fun ρ1 w1 hj hR => x_load (vs := [_, _, _]) TIs.out (show ρ1 7 = Value.pointer _ from hR.1) (hj.hp.rd_blk_at (i := 1) (n := 3) rfl rfl) rfl) ?_
    refine dx_val (i := 1) (fun ρ1 w1 hj hR => x_load (vs := [_, _, _]) TIs.out (show ρ1 4 = Value.pointer _ from hR.1) (hj.hp.rd_blk_at (i := 4) (n := 3) rfl rfl) rfl) ?_
    refine dx_val (i := 2) (fun ρ1 w1 hj hR => x_load (vs := [_, _, _]) TIs.out (show ρ1 3 = Value.pointer _ from hR.1) (hj.hp.rd_blk_at (i := 5) (n := 3) rfl rfl) rfl) ?_
    refine dx_buildSlice (i := 3) (cs := [_, _, _, _, _, _]) UIs.out TIs.out (fun ρ1 w1 hj hR => (evp_cons (show ρ1 25 = Value.agg (List.toArray _) from hR.1) (evp_cons (show ρ1 26 = Value.agg (List.toArray _) from hR.2.1) evp_nil))) rfl rfl (by decide) (by decide) rfl ?_
    refine dx_gen (i := 4) (Is (.agg #[.bool (nR (a.d + b.d)).neg, .string (nR (a.d + b.d)).mag, .int .i64 (nR (a.d + b.d)).e])) Is.ext ?_ ?_
    · intro ρ1 w1 hj hR
      obtain ⟨A27, c27, h27, s27⟩ := hR.1
      exact og_enter rfl (run_callf FnIs.out (evs_cons h27 evs_nil)) (add2 b a (a.d + b.d) (by grind) ob oa kb ka A27 c27 _ (hT.hp hj.hp) s27) (fun _ _ hq => ⟨_, hq.1, hq.2, rfl⟩)
    first | refine dx_val (i := 5) (fun ρ1 w1 hj hR => x_neN_f (show ρ1 24 = Value.agg (List.toArray _) from hR.1) (show ρ1 28 = Value.agg (List.toArray _) from hR.2.1) (by first | assumption | rfl)) ?_ | refine dx_val (i := 5) (fun ρ1 w1 hj hR => x_neN_t (show ρ1 24 = Value.agg (List.toArray _) from hR.1) (show ρ1 28 = Value.agg (List.toArray _) from hR.2.1) (by assumption)) ?_
    refine dx_val (i := 6) (fun ρ1 w1 hj hR => x_move (show ρ1 29 = Value.bool _ from hR.1)) ?_
    first | refine dx_skip (i := 7) rfl (fun ρ1 w1 hj hR => (show ρ1 30 = Value.bool _ from hR.2.1)) (by decide) ?_ | refine dx_skipU (i := 7) rfl (fun ρ1 w1 hj hR => (show ρ1 30 = undef from hR.2.1)) ?_ | refine dx_take (i := 7) rfl (fun ρ1 w1 hj hR => (show ρ1 30 = Value.bool _ from hR.2.1)) (fun ρ1 w1 hj hR => x_load (vs := [_, _, _]) TIs.out (show ρ1 8 = Value.pointer _ from hR.1) (hj.hp.rd_blk_at (i := 0) (n := 3) rfl rfl) rfl) ?_
    first | refine dx_skip (i := 8) rfl (fun ρ1 w1 hj hR => (show ρ1 30 = Value.bool _ from hR.2.1)) (by decide) ?_ | refine dx_skipU (i := 8) rfl (fun ρ1 w1 hj hR => (show ρ1 30 = undef from hR.2.1)) ?_ | refine dx_take (i := 8) rfl (fun ρ1 w1 hj hR => (show ρ1 30 = Value.bool _ from hR.2.1)) (fun ρ1 w1 hj hR => x_load (vs := [_, _, _]) TIs.out (show ρ1 4 = Value.pointer _ from hR.1) (hj.hp.rd_blk_at (i := 4) (n := 3) rfl rfl) rfl) ?_
    first | refine dx_skip (i := 9) rfl (fun ρ1 w1 hj hR => (show ρ1 30 = Value.bool _ from hR.2.1)) (by decide) ?_ | refine dx_skipU (i := 9) rfl (fun ρ1 w1 hj hR => (show ρ1 30 = undef from hR.2.1)) ?_ | refine dx_take (i := 9) rfl (fun ρ1 w1 hj hR => (show ρ1 30 = Value.bool _ from hR.2.1)) (fun ρ1 w1 hj hR => x_load (vs := [_, _, _]) TIs.out (show ρ1 3 = Value.pointer _ from hR.1) (hj.hp.rd_blk_at (i := 5) (n := 3) rfl rfl) rfl) ?_
    refine dx_take_buildSlice (i := 10) (cs := [_, _, _, _, _, _]) rfl (fun ρ1 w1 hj hR => (show ρ1 30 = Value.bool _ from hR.2.2.1)) UIs.out TIs.out (fun ρ1 w1 hj hR => (evp_cons (show ρ1 32 = Value.agg (List.toArray _) from hR.1) (evp_cons (show ρ1 33 = Value.agg (List.toArray _) from hR.2.1) evp_nil))) rfl rfl (by decide) (by decide) rfl ?_
    refine dx_gen (i := 11) (Is (.agg #[.bool (nR (a.d * b.d)).neg, .string (nR (a.d * b.d)).mag, .int .i64 (nR (a.d * b.d)).e])) Is.ext ?_ ?_
    · intro ρ1 w1 hj hR
      obtain ⟨A34, c34, h34, s34⟩ := hR.1
      refine og_guard_take rfl ((show ρ1 30 = Value.bool _ from hR.2.1)) ?_
      exact og_enter rfl (run_callf FnIs.out (evs_cons h34 evs_nil)) (mul2 b a (a.d * b.d) (by grind) ob oa kb ka A34 c34 _ (hT.hp hj.hp) s34) (fun _ _ hq => ⟨_, hq.1, hq.2, rfl⟩)
    first | refine dx_skip (i := 12) rfl (fun ρ1 w1 hj hR => (show ρ1 30 = Value.bool _ from hR.2.2.1)) (by decide) ?_ | refine dx_skipU (i := 12) rfl (fun ρ1 w1 hj hR => (show ρ1 30 = undef from hR.2.2.1)) ?_ | refine dx_take (i := 12) rfl (fun ρ1 w1 hj hR => (show ρ1 30 = Value.bool _ from hR.2.2.1)) (fun ρ1 w1 hj hR => x_neN_f (show ρ1 31 = Value.agg (List.toArray _) from hR.1) (show ρ1 35 = Value.agg (List.toArray _) from hR.2.1) (by first | assumption | rfl)) ?_ | refine dx_take (i := 12) rfl (fun ρ1 w1 hj hR => (show ρ1 30 = Value.bool _ from hR.2.2.1)) (fun ρ1 w1 hj hR => x_neN_t (show ρ1 31 = Value.agg (List.toArray _) from hR.1) (show ρ1 35 = Value.agg (List.toArray _) from hR.2.1) (by assumption)) ?_
    first | refine dx_val (i := 13) (fun ρ1 w1 hj hR => x_pick_t (show ρ1 30 = Value.bool _ from hR.1) rfl) ?_ | refine dx_val (i := 13) (fun ρ1 w1 hj hR => x_pick_f (show ρ1 30 = Value.bool _ from hR.1) (show ρ1 36 = Value.bool _ from hR.2.1)) ?_
    refine dx_val (i := 14) (fun ρ1 w1 hj hR => x_move (show ρ1 37 = Value.bool _ from hR.1)) ?_
    first | refine dx_skip (i := 15) rfl (fun ρ1 w1 hj hR => (show ρ1 38 = Value.bool _ from hR.2.1)) (by decide) ?_ | refine dx_skipU (i := 15) rfl (fun ρ1 w1 hj hR => (show ρ1 38 = undef from hR.2.1)) ?_ | refine dx_take (i := 15) rfl (fun ρ1 w1 hj hR => (show ρ1 38 = Value.bool _ from hR.2.1)) (fun ρ1 w1 hj hR => x_load (vs := [_, _, _]) TIs.out (show ρ1 7 = Value.pointer _ from hR.1) (hj.hp.rd_blk_at (i := 1) (n := 3) rfl rfl) rfl) ?_
    first | refine dx_skip (i := 16) rfl (fun ρ1 w1 hj hR => (show ρ1 38 = Value.bool _ from hR.2.1)) (by decide) ?_ | refine dx_skipU (i := 16) rfl (fun ρ1 w1 hj hR => (show ρ1 38 = undef from hR.2.1)) ?_ | refine dx_take (i := 16) rfl (fun ρ1 w1 hj hR => (show ρ1 38 = Value.bool _ from hR.2.1)) (fun ρ1 w1 hj hR => x_load (vs := [_, _, _]) TIs.out (show ρ1 5 = Value.pointer _ from hR.1) (hj.hp.rd_blk_at (i := 3) (n := 3) rfl rfl) rfl) ?_
    refine dx_take_buildSlice (i := 17) (cs := [_, _, _, _, _, _]) rfl (fun ρ1 w1 hj hR => (show ρ1 38 = Value.bool _ from hR.2.2.1)) UIs.out TIs.out (fun ρ1 w1 hj hR => (evp_cons (show ρ1 39 = Value.agg (List.toArray _) from hR.1) (evp_cons (show ρ1 40 = Value.agg (List.toArray _) from hR.2.1) evp_nil))) rfl rfl (by decide) (by decide) rfl ?_
    refine dx_gen (i := 18) (Is (.agg #[.bool (nR (a.d + b.d + c.d)).neg, .string (nR (a.d + b.d + c.d)).mag, .int .i64 (nR (a.d + b.d + c.d)).e])) Is.ext ?_ ?_
    · intro ρ1 w1 hj hR
      obtain ⟨A41, c41, h41, s41⟩ := hR.1
      refine og_guard_take rfl ((show ρ1 38 = Value.bool _ from hR.2.1)) ?_
      exact og_enter rfl (run_callf FnIs.out (evs_cons h41 evs_nil)) (add2 (nR (a.d + b.d)) c (a.d + b.d + c.d) (by simp only [nR_d] <;> grind) (o k1) oc (g k1) kc A41 c41 _ (hT.hp hj.hp) s41) (fun _ _ hq => ⟨_, hq.1, hq.2, rfl⟩)
    first | refine dx_skip (i := 19) rfl (fun ρ1 w1 hj hR => (show ρ1 38 = Value.bool _ from hR.2.1)) (by decide) ?_ | refine dx_skipU (i := 19) rfl (fun ρ1 w1 hj hR => (show ρ1 38 = undef from hR.2.1)) ?_ | refine dx_take (i := 19) rfl (fun ρ1 w1 hj hR => (show ρ1 38 = Value.bool _ from hR.2.1)) (fun ρ1 w1 hj hR => x_load (vs := [_, _, _]) TIs.out (show ρ1 3 = Value.pointer _ from hR.1) (hj.hp.rd_blk_at (i := 5) (n := 3) rfl rfl) rfl) ?_
    first | refine dx_skip (i := 20) rfl (fun ρ1 w1 hj hR => (show ρ1 38 = Value.bool _ from hR.2.1)) (by decide) ?_ | refine dx_skipU (i := 20) rfl (fun ρ1 w1 hj hR => (show ρ1 38 = undef from hR.2.1)) ?_ | refine dx_take (i := 20) rfl (fun ρ1 w1 hj hR => (show ρ1 38 = Value.bool _ from hR.2.1)) (fun ρ1 w1 hj hR => x_load (vs := [_, _, _]) TIs.out (show ρ1 4 = Value.pointer _ from hR.1) (hj.hp.rd_blk_at (i := 4) (n := 3) rfl rfl) rfl) ?_
    first | refine dx_skip (i := 21) rfl (fun ρ1 w1 hj hR => (show ρ1 38 = Value.bool _ from hR.2.1)) (by decide) ?_ | refine dx_skipU (i := 21) rfl (fun ρ1 w1 hj hR => (show ρ1 38 = undef from hR.2.1)) ?_ | refine dx_take (i := 21) rfl (fun ρ1 w1 hj hR => (show ρ1 38 = Value.bool _ from hR.2.1)) (fun ρ1 w1 hj hR => x_load (vs := [_, _, _]) TIs.out (show ρ1 5 = Value.pointer _ from hR.1) (hj.hp.rd_blk_at (i := 3) (n := 3) rfl rfl) rfl) ?_
    refine dx_take_buildSlice (i := 22) (cs := [_, _, _, _, _, _, _, _, _]) rfl (fun ρ1 w1 hj hR => (show ρ1 38 = Value.bool _ from hR.2.2.2.1)) UIs.out TIs.out (fun ρ1 w1 hj hR => (evp_cons (show ρ1 43 = Value.agg (List.toArray _) from hR.1) (evp_cons (show ρ1 44 = Value.agg (List.toArray _) from hR.2.1) (evp_cons (show ρ1 45 = Value.agg (List.toArray _) from hR.2.2.1) evp_nil)))) rfl rfl (by decide) (by decide) rfl ?_
    refine dx_gen (i := 23) (Is (.agg #[.bool (nR (a.d + b.d + c.d)).neg, .string (nR (a.d + b.d + c.d)).mag, .int .i64 (nR (a.d + b.d + c.d)).e])) Is.ext ?_ ?_
    · intro ρ1 w1 hj hR
      obtain ⟨A46, c46, h46, s46⟩ := hR.1
      refine og_guard_take rfl ((show ρ1 38 = Value.bool _ from hR.2.1)) ?_
      exact og_enter rfl (run_callf FnIs.out (evs_cons h46 evs_nil)) (add3 a b c (a.d + b.d + c.d) (by grind) oa ob oc ka kb kc A46 c46 _ (hT.hp hj.hp) s46) (fun _ _ hq => ⟨_, hq.1, hq.2, rfl⟩)
    first | refine dx_skip (i := 24) rfl (fun ρ1 w1 hj hR => (show ρ1 38 = Value.bool _ from hR.2.2.1)) (by decide) ?_ | refine dx_skipU (i := 24) rfl (fun ρ1 w1 hj hR => (show ρ1 38 = undef from hR.2.2.1)) ?_ | refine dx_take (i := 24) rfl (fun ρ1 w1 hj hR => (show ρ1 38 = Value.bool _ from hR.2.2.1)) (fun ρ1 w1 hj hR => x_neN_f (show ρ1 42 = Value.agg (List.toArray _) from hR.1) (show ρ1 47 = Value.agg (List.toArray _) from hR.2.1) (by first | assumption | rfl)) ?_ | refine dx_take (i := 24) rfl (fun ρ1 w1 hj hR => (show ρ1 38 = Value.bool _ from hR.2.2.1)) (fun ρ1 w1 hj hR => x_neN_t (show ρ1 42 = Value.agg (List.toArray _) from hR.1) (show ρ1 47 = Value.agg (List.toArray _) from hR.2.1) (by assumption)) ?_
    first | refine dx_val (i := 25) (fun ρ1 w1 hj hR => x_pick_t (show ρ1 38 = Value.bool _ from hR.1) rfl) ?_ | refine dx_val (i := 25) (fun ρ1 w1 hj hR => x_pick_f (show ρ1 38 = Value.bool _ from hR.1) (show ρ1 48 = Value.bool _ from hR.2.1)) ?_
    refine dx_val (i := 26) (fun ρ1 w1 hj hR => x_move (show ρ1 49 = Value.bool _ from hR.1)) ?_
    first | refine dx_skip (i := 27) rfl (fun ρ1 w1 hj hR => (show ρ1 50 = Value.bool _ from hR.2.1)) (by decide) ?_ | refine dx_skipU (i := 27) rfl (fun ρ1 w1 hj hR => (show ρ1 50 = undef from hR.2.1)) ?_ | refine dx_take (i := 27) rfl (fun ρ1 w1 hj hR => (show ρ1 50 = Value.bool _ from hR.2.1)) (fun ρ1 w1 hj hR => x_load (vs := [_, _, _]) TIs.out (show ρ1 3 = Value.pointer _ from hR.1) (hj.hp.rd_blk_at (i := 5) (n := 3) rfl rfl) rfl) ?_
    first | refine dx_skip (i := 28) rfl (fun ρ1 w1 hj hR => (show ρ1 50 = Value.bool _ from hR.2.1)) (by decide) ?_ | refine dx_skipU (i := 28) rfl (fun ρ1 w1 hj hR => (show ρ1 50 = undef from hR.2.1)) ?_ | refine dx_take (i := 28) rfl (fun ρ1 w1 hj hR => (show ρ1 50 = Value.bool _ from hR.2.1)) (fun ρ1 w1 hj hR => x_load (vs := [_, _, _]) TIs.out (show ρ1 4 = Value.pointer _ from hR.1) (hj.hp.rd_blk_at (i := 4) (n := 3) rfl rfl) rfl) ?_
    first | refine dx_skip (i := 29) rfl (fun ρ1 w1 hj hR => (show ρ1 50 = Value.bool _ from hR.2.1)) (by decide) ?_ | refine dx_skipU (i := 29) rfl (fun ρ1 w1 hj hR => (show ρ1 50 = undef from hR.2.1)) ?_ | refine dx_take (i := 29) rfl (fun ρ1 w1 hj hR => (show ρ1 50 = Value.bool _ from hR.2.1)) (fun ρ1 w1 hj hR => x_load (vs := [_, _, _]) TIs.out (show ρ1 5 = Value.pointer _ from hR.1) (hj.hp.rd_blk_at (i := 3) (n := 3) rfl rfl) rfl) ?_
    refine dx_take_buildSlice (i := 30) (cs := [_, _, _, _, _, _]) rfl (fun ρ1 w1 hj hR => (show ρ1 50 = Value.bool _ from hR.2.2.1)) UIs.out TIs.out (fun ρ1 w1 hj hR => (evp_cons (show ρ1 52 = Value.agg (List.toArray _) from hR.1) (evp_cons (show ρ1 53 = Value.agg (List.toArray _) from hR.2.1) evp_nil))) rfl rfl (by decide) (by decide) rfl ?_
    refine dx_gen (i := 31) (Is (.agg #[.bool (nR (b.d + c.d)).neg, .string (nR (b.d + c.d)).mag, .int .i64 (nR (b.d + c.d)).e])) Is.ext ?_ ?_
    · intro ρ1 w1 hj hR
      obtain ⟨A54, c54, h54, s54⟩ := hR.1
      refine og_guard_take rfl ((show ρ1 50 = Value.bool _ from hR.2.1)) ?_
      exact og_enter rfl (run_callf FnIs.out (evs_cons h54 evs_nil)) (add2 b c (b.d + c.d) (by grind) ob oc kb kc A54 c54 _ (hT.hp hj.hp) s54) (fun _ _ hq => ⟨_, hq.1, hq.2, rfl⟩)
    refine dx_take_buildSlice (i := 32) (cs := [_, _, _, _, _, _]) rfl (fun ρ1 w1 hj hR => (show ρ1 50 = Value.bool _ from hR.2.2.1)) UIs.out TIs.out (fun ρ1 w1 hj hR => (evp_cons (show ρ1 51 = Value.agg (List.toArray _) from hR.1) (evp_cons (show ρ1 55 = Value.agg (List.toArray _) from hR.2.1) evp_nil))) rfl rfl (by decide) (by decide) rfl ?_
    refine dx_gen (i := 33) (Is (.agg #[.bool (nR (a.d + b.d + c.d)).neg, .string (nR (a.d + b.d + c.d)).mag, .int .i64 (nR (a.d + b.d + c.d)).e])) Is.ext ?_ ?_
    · intro ρ1 w1 hj hR
      obtain ⟨A56, c56, h56, s56⟩ := hR.1
      refine og_guard_take rfl ((show ρ1 50 = Value.bool _ from hR.2.1)) ?_
      exact og_enter rfl (run_callf FnIs.out (evs_cons h56 evs_nil)) (add2 a (nR (b.d + c.d)) (a.d + b.d + c.d) (by simp only [nR_d] <;> grind) oa (o k3) ka (g k3) A56 c56 _ (hT.hp hj.hp) s56) (fun _ _ hq => ⟨_, hq.1, hq.2, rfl⟩)
    first | refine dx_skip (i := 34) rfl (fun ρ1 w1 hj hR => (show ρ1 50 = Value.bool _ from hR.2.1)) (by decide) ?_ | refine dx_skipU (i := 34) rfl (fun ρ1 w1 hj hR => (show ρ1 50 = undef from hR.2.1)) ?_ | refine dx_take (i := 34) rfl (fun ρ1 w1 hj hR => (show ρ1 50 = Value.bool _ from hR.2.1)) (fun ρ1 w1 hj hR => x_load (vs := [_, _, _]) TIs.out (show ρ1 7 = Value.pointer _ from hR.1) (hj.hp.rd_blk_at (i := 1) (n := 3) rfl rfl) rfl) ?_
    first | refine dx_skip (i := 35) rfl (fun ρ1 w1 hj hR => (show ρ1 50 = Value.bool _ from hR.2.1)) (by decide) ?_ | refine dx_skipU (i := 35) rfl (fun ρ1 w1 hj hR => (show ρ1 50 = undef from hR.2.1)) ?_ | refine dx_take (i := 35) rfl (fun ρ1 w1 hj hR => (show ρ1 50 = Value.bool _ from hR.2.1)) (fun ρ1 w1 hj hR => x_load (vs := [_, _, _]) TIs.out (show ρ1 5 = Value.pointer _ from hR.1) (hj.hp.rd_blk_at (i := 3) (n := 3) rfl rfl) rfl) ?_
    refine dx_take_buildSlice (i := 36) (cs := [_, _, _, _, _, _]) rfl (fun ρ1 w1 hj hR => (show ρ1 50 = Value.bool _ from hR.2.2.1)) UIs.out TIs.out (fun ρ1 w1 hj hR => (evp_cons (show ρ1 58 = Value.agg (List.toArray _) from hR.1) (evp_cons (show ρ1 59 = Value.agg (List.toArray _) from hR.2.1) evp_nil))) rfl rfl (by decide) (by decide) rfl ?_
    refine dx_gen (i := 37) (Is (.agg #[.bool (nR (a.d + b.d + c.d)).neg, .string (nR (a.d + b.d + c.d)).mag, .int .i64 (nR (a.d + b.d + c.d)).e])) Is.ext ?_ ?_
    · intro ρ1 w1 hj hR
      obtain ⟨A60, c60, h60, s60⟩ := hR.1
      refine og_guard_take rfl ((show ρ1 50 = Value.bool _ from hR.2.1)) ?_
      exact og_enter rfl (run_callf FnIs.out (evs_cons h60 evs_nil)) (add2 (nR (a.d + b.d)) c (a.d + b.d + c.d) (by simp only [nR_d] <;> grind) (o k1) oc (g k1) kc A60 c60 _ (hT.hp hj.hp) s60) (fun _ _ hq => ⟨_, hq.1, hq.2, rfl⟩)
    first | refine dx_skip (i := 38) rfl (fun ρ1 w1 hj hR => (show ρ1 50 = Value.bool _ from hR.2.2.1)) (by decide) ?_ | refine dx_skipU (i := 38) rfl (fun ρ1 w1 hj hR => (show ρ1 50 = undef from hR.2.2.1)) ?_ | refine dx_take (i := 38) rfl (fun ρ1 w1 hj hR => (show ρ1 50 = Value.bool _ from hR.2.2.1)) (fun ρ1 w1 hj hR => x_neN_f (show ρ1 57 = Value.agg (List.toArray _) from hR.1) (show ρ1 61 = Value.agg (List.toArray _) from hR.2.1) (by first | assumption | rfl)) ?_ | refine dx_take (i := 38) rfl (fun ρ1 w1 hj hR => (show ρ1 50 = Value.bool _ from hR.2.2.1)) (fun ρ1 w1 hj hR => x_neN_t (show ρ1 57 = Value.agg (List.toArray _) from hR.1) (show ρ1 61 = Value.agg (List.toArray _) from hR.2.1) (by assumption)) ?_
    first | refine dx_val (i := 39) (fun ρ1 w1 hj hR => x_pick_t (show ρ1 50 = Value.bool _ from hR.1) rfl) ?_ | refine dx_val (i := 39) (fun ρ1 w1 hj hR => x_pick_f (show ρ1 50 = Value.bool _ from hR.1) (show ρ1 62 = Value.bool _ from hR.2.1)) ?_
    refine dx_val (i := 40) (fun ρ1 w1 hj hR => x_move (show ρ1 63 = Value.bool _ from hR.1)) ?_
    first | refine dx_skip (i := 41) rfl (fun ρ1 w1 hj hR => (show ρ1 64 = Value.bool _ from hR.2.1)) (by decide) ?_ | refine dx_skipU (i := 41) rfl (fun ρ1 w1 hj hR => (show ρ1 64 = undef from hR.2.1)) ?_ | refine dx_take (i := 41) rfl (fun ρ1 w1 hj hR => (show ρ1 64 = Value.bool _ from hR.2.1)) (fun ρ1 w1 hj hR => x_load (vs := [_, _, _]) TIs.out (show ρ1 8 = Value.pointer _ from hR.1) (hj.hp.rd_blk_at (i := 0) (n := 3) rfl rfl) rfl) ?_
    first | refine dx_skip (i := 42) rfl (fun ρ1 w1 hj hR => (show ρ1 64 = Value.bool _ from hR.2.1)) (by decide) ?_ | refine dx_skipU (i := 42) rfl (fun ρ1 w1 hj hR => (show ρ1 64 = undef from hR.2.1)) ?_ | refine dx_take (i := 42) rfl (fun ρ1 w1 hj hR => (show ρ1 64 = Value.bool _ from hR.2.1)) (fun ρ1 w1 hj hR => x_load (vs := [_, _, _]) TIs.out (show ρ1 5 = Value.pointer _ from hR.1) (hj.hp.rd_blk_at (i := 3) (n := 3) rfl rfl) rfl) ?_
    refine dx_take_buildSlice (i := 43) (cs := [_, _, _, _, _, _]) rfl (fun ρ1 w1 hj hR => (show ρ1 64 = Value.bool _ from hR.2.2.1)) UIs.out TIs.out (fun ρ1 w1 hj hR => (evp_cons (show ρ1 65 = Value.agg (List.toArray _) from hR.1) (evp_cons (show ρ1 66 = Value.agg (List.toArray _) from hR.2.1) evp_nil))) rfl rfl (by decide) (by decide) rfl ?_
    refine dx_gen (i := 44) (Is (.agg #[.bool (nR (a.d * b.d * c.d)).neg, .string (nR (a.d * b.d * c.d)).mag, .int .i64 (nR (a.d * b.d * c.d)).e])) Is.ext ?_ ?_
    · intro ρ1 w1 hj hR
      obtain ⟨A67, c67, h67, s67⟩ := hR.1
      refine og_guard_take rfl ((show ρ1 64 = Value.bool _ from hR.2.1)) ?_
      exact og_enter rfl (run_callf FnIs.out (evs_cons h67 evs_nil)) (mul2 (nR (a.d * b.d)) c (a.d * b.d * c.d) (by simp only [nR_d] <;> grind) (o k2) oc (g k2) kc A67 c67 _ (hT.hp hj.hp) s67) (fun _ _ hq => ⟨_, hq.1, hq.2, rfl⟩)
    first | refine dx_skip (i := 45) rfl (fun ρ1 w1 hj hR => (show ρ1 64 = Value.bool _ from hR.2.1)) (by decide) ?_ | refine dx_skipU (i := 45) rfl (fun ρ1 w1 hj hR => (show ρ1 64 = undef from hR.2.1)) ?_ | refine dx_take (i := 45) rfl (fun ρ1 w1 hj hR => (show ρ1 64 = Value.bool _ from hR.2.1)) (fun ρ1 w1 hj hR => x_load (vs := [_, _, _]) TIs.out (show ρ1 3 = Value.pointer _ from hR.1) (hj.hp.rd_blk_at (i := 5) (n := 3) rfl rfl) rfl) ?_
    first | refine dx_skip (i := 46) rfl (fun ρ1 w1 hj hR => (show ρ1 64 = Value.bool _ from hR.2.1)) (by decide) ?_ | refine dx_skipU (i := 46) rfl (fun ρ1 w1 hj hR => (show ρ1 64 = undef from hR.2.1)) ?_ | refine dx_take (i := 46) rfl (fun ρ1 w1 hj hR => (show ρ1 64 = Value.bool _ from hR.2.1)) (fun ρ1 w1 hj hR => x_load (vs := [_, _, _]) TIs.out (show ρ1 4 = Value.pointer _ from hR.1) (hj.hp.rd_blk_at (i := 4) (n := 3) rfl rfl) rfl) ?_
    first | refine dx_skip (i := 47) rfl (fun ρ1 w1 hj hR => (show ρ1 64 = Value.bool _ from hR.2.1)) (by decide) ?_ | refine dx_skipU (i := 47) rfl (fun ρ1 w1 hj hR => (show ρ1 64 = undef from hR.2.1)) ?_ | refine dx_take (i := 47) rfl (fun ρ1 w1 hj hR => (show ρ1 64 = Value.bool _ from hR.2.1)) (fun ρ1 w1 hj hR => x_load (vs := [_, _, _]) TIs.out (show ρ1 5 = Value.pointer _ from hR.1) (hj.hp.rd_blk_at (i := 3) (n := 3) rfl rfl) rfl) ?_
    refine dx_take_buildSlice (i := 48) (cs := [_, _, _, _, _, _]) rfl (fun ρ1 w1 hj hR => (show ρ1 64 = Value.bool _ from hR.2.2.1)) UIs.out TIs.out (fun ρ1 w1 hj hR => (evp_cons (show ρ1 70 = Value.agg (List.toArray _) from hR.1) (evp_cons (show ρ1 71 = Value.agg (List.toArray _) from hR.2.1) evp_nil))) rfl rfl (by decide) (by decide) rfl ?_
    refine dx_gen (i := 49) (Is (.agg #[.bool (nR (b.d * c.d)).neg, .string (nR (b.d * c.d)).mag, .int .i64 (nR (b.d * c.d)).e])) Is.ext ?_ ?_
    · intro ρ1 w1 hj hR
      obtain ⟨A72, c72, h72, s72⟩ := hR.1
      refine og_guard_take rfl ((show ρ1 64 = Value.bool _ from hR.2.1)) ?_
      exact og_enter rfl (run_callf FnIs.out (evs_cons h72 evs_nil)) (mul2 b c (b.d * c.d) (by grind) ob oc kb kc A72 c72 _ (hT.hp hj.hp) s72) (fun _ _ hq => ⟨_, hq.1, hq.2, rfl⟩)
    refine dx_nil ?_
    intro f W hJ hV _
    have hb_4 := hJ.bl
    obtain ⟨v73, v72, v71, v70, v69, v68, v67, v66, v65, v64, v63, v62, v61, v60, v59, v58, v57, v56, v55, v54, v53, v52, v51, v50, v49, v48, v47, v46, v45, v44, v43, v42, v41, v40, v39, v38, v37, v36, v35, v34, v33, v32, v31, v30, v29, v28, v27, v26, v25, v24, _⟩ := hV
    have e24 : f 0 = _ := v24
    have e25 : f 1 = _ := v25
    have e26 : f 2 = _ := v26
    obtain ⟨A27, c27, e27, f27⟩ : Rows _ _ _ (f 3) W := v27
    have e28 : f 4 = _ := v28
    have e29 : f 5 = _ := v29
    have e30 : f 6 = _ := v30
    have e31 : f 7 = _ := v31
    have e32 : f 8 = _ := v32
    have e33 : f 9 = _ := v33
    obtain ⟨A34, c34, e34, f34⟩ : Rows _ _ _ (f 10) W := v34
    have e35 : f 11 = _ := v35
    have e36 : f 12 = _ := v36
    have e37 : f 13 = _ := v37
    have e38 : f 14 = _ := v38
    have e39 : f 15 = _ := v39
    have e40 : f 16 = _ := v40
    obtain ⟨A41, c41, e41, f41⟩ : Rows _ _ _ (f 17) W := v41
    have e42 : f 18 = _ := v42
    have e43 : f 19 = _ := v43
    have e44 : f 20 = _ := v44
    have e45 : f 21 = _ := v45
    obtain ⟨A46, c46, e46, f46⟩ : Rows _ _ _ (f 22) W := v46
    have e47 : f 23 = _ := v47
    have e48 : f 24 = _ := v48
    have e49 : f 25 = _ := v49
    have e50 : f 26 = _ := v50
    have e51 : f 27 = _ := v51
    have e52 : f 28 = _ := v52
    have e53 : f 29 = _ := v53
    obtain ⟨A54, c54, e54, f54⟩ : Rows _ _ _ (f 30) W := v54
    have e55 : f 31 = _ := v55
    obtain ⟨A56, c56, e56, f56⟩ : Rows _ _ _ (f 32) W := v56
    have e57 : f 33 = _ := v57
    have e58 : f 34 = _ := v58
    have e59 : f 35 = _ := v59
    obtain ⟨A60, c60, e60, f60⟩ : Rows _ _ _ (f 36) W := v60
    have e61 : f 37 = _ := v61
    have e62 : f 38 = _ := v62
    have e63 : f 39 = _ := v63
    have e64 : f 40 = _ := v64
    have e65 : f 41 = _ := v65
    have e66 : f 42 = _ := v66
    obtain ⟨A67, c67, e67, f67⟩ : Rows _ _ _ (f 43) W := v67
    have e68 : f 44 = _ := v68
    have e69 : f 45 = _ := v69
    have e70 : f 46 = _ := v70
    have e71 : f 47 = _ := v71
    obtain ⟨A72, c72, e72, f72⟩ : Rows _ _ _ (f 48) W := v72
    have e73 : f 49 = _ := v73
    replace hh := hJ.hp
    refine wl_cast (updL_K (eql_cons e73 (eql_cons e72 (eql_cons e71 (eql_cons e70 (eql_cons e69 (eql_cons e68 (eql_cons e67 (eql_cons e66 (eql_cons e65 (eql_cons e64 (eql_cons e63 (eql_cons e62 (eql_cons e61 (eql_cons e60 (eql_cons e59 (eql_cons e58 (eql_cons e57 (eql_cons e56 (eql_cons e55 (eql_cons e54 (eql_cons e53 (eql_cons e52 (eql_cons e51 (eql_cons e50 (eql_cons e49 (eql_cons e48 (eql_cons e47 (eql_cons e46 (eql_cons e45 (eql_cons e44 (eql_cons e43 (eql_cons e42 (eql_cons e41 (eql_cons e40 (eql_cons e39 (eql_cons e38 (eql_cons e37 (eql_cons e36 (eql_cons e35 (eql_cons e34 (eql_cons e33 (eql_cons e32 (eql_cons e31 (eql_cons e30 (eql_cons e29 (eql_cons e28 (eql_cons e27 (eql_cons e26 (eql_cons e25 (eql_cons e24 eql_nil))))))))))))))))))))))))))))))))))))))))))))))))))) ?_
    dsimp only [updK]
    clear e24 e25 e26 e27 e28 e29 e30 e31 e32 e33 e34 e35 e36 e37 e38 e39 e40 e41 e42 e43 e44 e45 e46 e47 e48 e49 e50 e51 e52 e53 e54 e55 e56 e57 e58 e59 e60 e61 e62 e63 e64 e65 e66 e67 e68 e69 e70 e71 e72 e73 hJ
    first | (refine wl_guard_skip (by decide) rfl rfl (by decide) ?_) | (refine wl_guard_take rfl rfl ?_; (refine wl_buildSlice hh (cs := [_, _, _, _, _, _]) UIs.out TIs.out (evp_cons (ev_agg rfl) (evp_cons (ev_agg rfl) evp_nil)) rfl rfl (by decide) (by decide) (by decide) rfl (by decide) ?_); (intro b74 w74 hh)) | (refine wl_guard_skipV (by decide) rfl rfl ?_)
    -- at guarded Op.call { callee := Callee.value (Operand.func 8), args := #[Operand.tmp 74], ar
    refine wl_guard_take rfl rfl ?_
    refine s_callf (mul2 a (nR (b.d * c.d)) (a.d * b.d * c.d) (by simp only [nR_d] <;> grind) oa (o k4) ka (g k4) _ _ _ (hT.hp hh) (hh.sl_row (i := 0) rfl)) FnIs.out rfl (by decide) ?_
    rintro e_ w75 ⟨rfl, hb_⟩
    refine ⟨_, rfl, ?_⟩
    replace hh := hh.ext hb_
    first | (refine wl_guard_skip (by decide) rfl rfl (by decide) ?_) | (refine wl_guard_take rfl rfl ?_; (first | refine s_neN_f rfl rfl (by first | assumption | rfl) (by decide) ?_ | refine s_neN_t rfl rfl (by assumption) (by decide) ?_)) | (refine wl_guard_skipV (by decide) rfl rfl ?_)
    first | refine s_pick_t rfl (ev_bool rfl) (by decide) ?_ | refine s_pick_f rfl (ev_bool rfl) (by decide) ?_
    refine wl_end ?_
    refine wc_cond_f rfl ?_
    refine wc_skip ?_
    refine k_then ?_
    refine wc_seq ?_
    refine wc_region ?_
    refine s_load (vs := [_, _, _]) TIs.out rfl (hh.rd_blk_at (i := 6) (n := 3) rfl rfl) rfl (by decide) ?_
    -- at some 79 := Op.call { callee := Callee.value (Operand.func 9), args := #[Operand.tmp 78, Operand.const
    refine s_callf (hhalf _ (hT.hp hh)) FnIs.out rfl (by decide) ?_
    rintro e_ w79 ⟨rfl, hb_⟩
    refine ⟨_, rfl, ?_⟩
    replace hh := hh.ext hb_
    refine wl_alloc hh TIs.out (by decide) ?_
    intro b9 w9 hh
    refine wl_store hh (i := 0) (vs := [_, _, _]) rfl rfl rfl rfl TIs.out rfl (by simp) rfl ?_
    intro ws hh
    replace hh : Hp _ (.blk _ _ [_, _, _] _ :: _) _ := hh
    refine wl_end ?_
    refine wc_seq ?_
    -- at the drawn region 7
    refine wc_drawn2 [] [] [0, 0, 3, 7, 0, 0, 48, 127, 0, 0, 768, 2047, 4095, 8191, 16383, 32767, 65535, 65535, 262143, 65535, 1048575, 2097151, 4194303, 8388607, 16777215, 16777215, 67108863, 134217727, 16777215, 536870911, 1073741823, 2147483647, 4294967295, 8589934591, 17179869183, 8589934591, 68719476735, 137438953471, 274877906943, 549755813887, 1099511627775, 549755813887, 4398046511103, 8796093022207, 17592186044415, 35184372088831, 35184372088831, 105553116266495, 281474976710655, 562949953421311, 35184372088831, 2251799813685247, 4503599627370495, 9007199254740991, 18014398509481983, 36028797018963967, 72057594037927935] 51 [[(7, none)], [(5, none)], [(80, some 0), (81, some 1)], [(82, some 2)], [(3, none)], [(5, none)], [(84, some 4), (85, some 5)], [(86, some 6)], [(4, none)], [(5, none)], [(88, some 8), (89, some 9)], [(90, some 10)], [(87, some 7), (91, some 11)], [(92, some 12)], [(83, some 3), (93, some 13)], [(94, some 14)], [(7, none), (95, some 15)], [(4, none), (95, some 15)], [(96, some 16), (97, some 17), (95, some 15)], [(3, none), (95, some 15)], [(99, some 19), (95, some 15)], [(98, some 18), (100, some 20), (95, some 15)], [(95, some 15), (101, some 21)], [(102, some 22)], [(9, none), (103, some 23)], [(9, none), (103, some 23)], [(104, some 24), (105, some 25), (103, some 23)], [(106, some 26), (103, some 23)], [(3, none), (103, some 23)], [(108, some 28), (103, some 23)], [(107, some 27), (109, some 29), (103, some 23)], [(103, some 23), (110, some 30)], [(111, some 31)], [(7, none), (112, some 32)], [(113, some 33), (112, some 32)], [(7, none), (112, some 32)], [(114, some 34), (115, some 35), (112, some 32)], [(112, some 32), (116, some 36)], [(117, some 37)], [(8, none), (118, some 38)], [(119, some 39), (118, some 38)], [(8, none), (118, some 38)], [(120, some 40), (121, some 41), (118, some 38)], [(118, some 38), (122, some 42)], [(123, some 43)], [(3, none), (124, some 44)], [(3, none), (124, some 44)], [(126, some 46), (124, some 44)], [(125, some 45), (127, some 47), (124, some 44)], [(128, some 48), (124, some 44)], [(124, some 44)]] [(50, 130), (49, 129), (48, 128), (47, 127), (46, 126), (45, 125), (44, 124), (43, 123), (42, 122), (41, 121), (40, 120), (39, 119), (38, 118), (37, 117), (36, 116), (35, 115), (34, 114), (33, 113), (32, 112), (31, 111), (30, 110), (29, 109), (28, 108), (27, 107), (26, 106), (25, 105), (24, 104), (23, 103), (22, 102), (21, 101), (20, 100), (19, 99), (18, 98), (17, 97), (16, 96), (15, 95), (14, 94), (13, 93), (12, 92), (11, 91), (10, 90), (9, 89), (8, 88), (7, 87), (6, 86), (5, 85), (4, 84), (3, 83), (2, 82), (1, 81), (0, 80)] hh mixed (by kernel_rfl) alok_nil rfl (by repeat (first | exact np_ret | refine np_then ?_ | refine np_blk ?_)) ?_
    refine dx_val (i := 0) (fun ρ1 w1 hj hR => x_load (vs := [_, _, _]) TIs.out (show ρ1 7 = Value.pointer _ from hR.1) (hj.hp.rd_blk_at (i := 3) (n := 3) rfl rfl) rfl) ?_
    refine dx_val (i := 1) (fun ρ1 w1 hj hR => x_load (vs := [_, _, _]) TIs.out (show ρ1 5 = Value.pointer _ from hR.1) (hj.hp.rd_blk_at (i := 5) (n := 3) rfl rfl) rfl) ?_
    refine dx_buildSlice (i := 2) (cs := [_, _, _, _, _, _]) UIs.out TIs.out (fun ρ1 w1 hj hR => (evp_cons (show ρ1 80 = Value.agg (List.toArray _) from hR.1) (evp_cons (show ρ1 81 = Value.agg (List.toArray _) from hR.2.1) evp_nil))) rfl rfl (by decide) (by decide) rfl ?_
    refine dx_gen (i := 3) (Is (.agg #[.bool (nR ((a.d + b.d) * c.d)).neg, .string (nR ((a.d + b.d) * c.d)).mag, .int .i64 (nR ((a.d + b.d) * c.d)).e])) Is.ext ?_ ?_
    · intro ρ1 w1 hj hR
      obtain ⟨A82, c82, h82, s82⟩ := hR.1
      exact og_enter rfl (run_callf FnIs.out (evs_cons h82 evs_nil)) (mul2 (nR (a.d + b.d)) c ((a.d + b.d) * c.d) (by simp only [nR_d] <;> grind) (o k1) oc (g k1) kc A82 c82 _ (hT.hp hj.hp) s82) (fun _ _ hq => ⟨_, hq.1, hq.2, rfl⟩)
    refine dx_val (i := 4) (fun ρ1 w1 hj hR => x_load (vs := [_, _, _]) TIs.out (show ρ1 3 = Value.pointer _ from hR.1) (hj.hp.rd_blk_at (i := 7) (n := 3) rfl rfl) rfl) ?_
    refine dx_val (i := 5) (fun ρ1 w1 hj hR => x_load (vs := [_, _, _]) TIs.out (show ρ1 5 = Value.pointer _ from hR.1) (hj.hp.rd_blk_at (i := 5) (n := 3) rfl rfl) rfl) ?_
    refine dx_buildSlice (i := 6) (cs := [_, _, _, _, _, _]) UIs.out TIs.out (fun ρ1 w1 hj hR => (evp_cons (show ρ1 84 = Value.agg (List.toArray _) from hR.1) (evp_cons (show ρ1 85 = Value.agg (List.toArray _) from hR.2.1) evp_nil))) rfl rfl (by decide) (by decide) rfl ?_
    refine dx_gen (i := 7) (Is (.agg #[.bool (nR (a.d * c.d)).neg, .string (nR (a.d * c.d)).mag, .int .i64 (nR (a.d * c.d)).e])) Is.ext ?_ ?_
    · intro ρ1 w1 hj hR
      obtain ⟨A86, c86, h86, s86⟩ := hR.1
      exact og_enter rfl (run_callf FnIs.out (evs_cons h86 evs_nil)) (mul2 a c (a.d * c.d) (by grind) oa oc ka kc A86 c86 _ (hT.hp hj.hp) s86) (fun _ _ hq => ⟨_, hq.1, hq.2, rfl⟩)
    refine dx_val (i := 8) (fun ρ1 w1 hj hR => x_load (vs := [_, _, _]) TIs.out (show ρ1 4 = Value.pointer _ from hR.1) (hj.hp.rd_blk_at (i := 6) (n := 3) rfl rfl) rfl) ?_
    refine dx_val (i := 9) (fun ρ1 w1 hj hR => x_load (vs := [_, _, _]) TIs.out (show ρ1 5 = Value.pointer _ from hR.1) (hj.hp.rd_blk_at (i := 5) (n := 3) rfl rfl) rfl) ?_
    refine dx_buildSlice (i := 10) (cs := [_, _, _, _, _, _]) UIs.out TIs.out (fun ρ1 w1 hj hR => (evp_cons (show ρ1 88 = Value.agg (List.toArray _) from hR.1) (evp_cons (show ρ1 89 = Value.agg (List.toArray _) from hR.2.1) evp_nil))) rfl rfl (by decide) (by decide) rfl ?_
    refine dx_gen (i := 11) (Is (.agg #[.bool (nR (b.d * c.d)).neg, .string (nR (b.d * c.d)).mag, .int .i64 (nR (b.d * c.d)).e])) Is.ext ?_ ?_
    · intro ρ1 w1 hj hR
      obtain ⟨A90, c90, h90, s90⟩ := hR.1
      exact og_enter rfl (run_callf FnIs.out (evs_cons h90 evs_nil)) (mul2 b c (b.d * c.d) (by grind) ob oc kb kc A90 c90 _ (hT.hp hj.hp) s90) (fun _ _ hq => ⟨_, hq.1, hq.2, rfl⟩)
    refine dx_buildSlice (i := 12) (cs := [_, _, _, _, _, _]) UIs.out TIs.out (fun ρ1 w1 hj hR => (evp_cons (show ρ1 87 = Value.agg (List.toArray _) from hR.1) (evp_cons (show ρ1 91 = Value.agg (List.toArray _) from hR.2.1) evp_nil))) rfl rfl (by decide) (by decide) rfl ?_
    refine dx_gen (i := 13) (Is (.agg #[.bool (nR ((a.d + b.d) * c.d)).neg, .string (nR ((a.d + b.d) * c.d)).mag, .int .i64 (nR ((a.d + b.d) * c.d)).e])) Is.ext ?_ ?_
    · intro ρ1 w1 hj hR
      obtain ⟨A92, c92, h92, s92⟩ := hR.1
      exact og_enter rfl (run_callf FnIs.out (evs_cons h92 evs_nil)) (add2 (nR (a.d * c.d)) (nR (b.d * c.d)) ((a.d + b.d) * c.d) (by simp only [nR_d] <;> grind) (o k5) (o k4) (g k5) (g k4) A92 c92 _ (hT.hp hj.hp) s92) (fun _ _ hq => ⟨_, hq.1, hq.2, rfl⟩)
    first | refine dx_val (i := 14) (fun ρ1 w1 hj hR => x_eqN_t (show ρ1 83 = Value.agg (List.toArray _) from hR.1) (show ρ1 93 = Value.agg (List.toArray _) from hR.2.1) (by first | assumption | rfl)) ?_ | refine dx_val (i := 14) (fun ρ1 w1 hj hR => x_eqN_f (show ρ1 83 = Value.agg (List.toArray _) from hR.1) (show ρ1 93 = Value.agg (List.toArray _) from hR.2.1) (by assumption)) ?_
    refine dx_val (i := 15) (fun ρ1 w1 hj hR => x_move (show ρ1 94 = Value.bool _ from hR.1)) ?_
    first | refine dx_skip (i := 16) rfl (fun ρ1 w1 hj hR => (show ρ1 95 = Value.bool _ from hR.2.1)) (by decide) ?_ | refine dx_skipU (i := 16) rfl (fun ρ1 w1 hj hR => (show ρ1 95 = undef from hR.2.1)) ?_ | refine dx_take (i := 16) rfl (fun ρ1 w1 hj hR => (show ρ1 95 = Value.bool _ from hR.2.1)) (fun ρ1 w1 hj hR => x_load (vs := [_, _, _]) TIs.out (show ρ1 7 = Value.pointer _ from hR.1) (hj.hp.rd_blk_at (i := 3) (n := 3) rfl rfl) rfl) ?_
    first | refine dx_skip (i := 17) rfl (fun ρ1 w1 hj hR => (show ρ1 95 = Value.bool _ from hR.2.1)) (by decide) ?_ | refine dx_skipU (i := 17) rfl (fun ρ1 w1 hj hR => (show ρ1 95 = undef from hR.2.1)) ?_ | refine dx_take (i := 17) rfl (fun ρ1 w1 hj hR => (show ρ1 95 = Value.bool _ from hR.2.1)) (fun ρ1 w1 hj hR => x_load (vs := [_, _, _]) TIs.out (show ρ1 4 = Value.pointer _ from hR.1) (hj.hp.rd_blk_at (i := 6) (n := 3) rfl rfl) rfl) ?_
    refine dx_take_call (i := 18) rfl (fun ρ1 w1 hj hR => (show ρ1 95 = Value.bool _ from hR.2.2.1)) (fun ρ1 w1 hj hR => run_callf FnIs.out (evs_cons (show ρ1 96 = Value.agg (List.toArray _) from hR.1) (evs_cons (show ρ1 97 = Value.agg (List.toArray _) from hR.2.1) evs_nil))) (fun w1 hj => hsub _ (hT.hp hj.hp)) ?_
    first | refine dx_skip (i := 19) rfl (fun ρ1 w1 hj hR => (show ρ1 95 = Value.bool _ from hR.2.1)) (by decide) ?_ | refine dx_skipU (i := 19) rfl (fun ρ1 w1 hj hR => (show ρ1 95 = undef from hR.2.1)) ?_ | refine dx_take (i := 19) rfl (fun ρ1 w1 hj hR => (show ρ1 95 = Value.bool _ from hR.2.1)) (fun ρ1 w1 hj hR => x_load (vs := [_, _, _]) TIs.out (show ρ1 3 = Value.pointer _ from hR.1) (hj.hp.rd_blk_at (i := 7) (n := 3) rfl rfl) rfl) ?_
    refine dx_take_call (i := 20) rfl (fun ρ1 w1 hj hR => (show ρ1 95 = Value.bool _ from hR.2.1)) (fun ρ1 w1 hj hR => run_callf FnIs.out (evs_cons (show ρ1 99 = Value.agg (List.toArray _) from hR.1) evs_nil)) (fun w1 hj => hfm _ (hT.hp hj.hp)) ?_
    first | refine dx_skip (i := 21) rfl (fun ρ1 w1 hj hR => (show ρ1 95 = Value.bool _ from hR.2.2.1)) (by decide) ?_ | refine dx_skipU (i := 21) rfl (fun ρ1 w1 hj hR => (show ρ1 95 = undef from hR.2.2.1)) ?_ | refine dx_take (i := 21) rfl (fun ρ1 w1 hj hR => (show ρ1 95 = Value.bool _ from hR.2.2.1)) (fun ρ1 w1 hj hR => x_eqN_t (show ρ1 98 = Value.agg (List.toArray _) from hR.1) (show ρ1 100 = Value.agg (List.toArray _) from hR.2.1) (by first | assumption | rfl)) ?_ | refine dx_take (i := 21) rfl (fun ρ1 w1 hj hR => (show ρ1 95 = Value.bool _ from hR.2.2.1)) (fun ρ1 w1 hj hR => x_eqN_f (show ρ1 98 = Value.agg (List.toArray _) from hR.1) (show ρ1 100 = Value.agg (List.toArray _) from hR.2.1) (by assumption)) ?_
    first | refine dx_val (i := 22) (fun ρ1 w1 hj hR => x_pick_t (show ρ1 95 = Value.bool _ from hR.1) (show ρ1 101 = Value.bool _ from hR.2.1)) ?_ | refine dx_val (i := 22) (fun ρ1 w1 hj hR => x_pick_f (show ρ1 95 = Value.bool _ from hR.1) rfl) ?_
    refine dx_val (i := 23) (fun ρ1 w1 hj hR => x_move (show ρ1 102 = Value.bool _ from hR.1)) ?_
    first | refine dx_skip (i := 24) rfl (fun ρ1 w1 hj hR => (show ρ1 103 = Value.bool _ from hR.2.1)) (by decide) ?_ | refine dx_skipU (i := 24) rfl (fun ρ1 w1 hj hR => (show ρ1 103 = undef from hR.2.1)) ?_ | refine dx_take (i := 24) rfl (fun ρ1 w1 hj hR => (show ρ1 103 = Value.bool _ from hR.2.1)) (fun ρ1 w1 hj hR => x_load (vs := [_, _, _]) TIs.out (show ρ1 9 = Value.pointer _ from hR.1) (hj.hp.rd_blk_at (i := 0) (n := 3) rfl rfl) rfl) ?_
    first | refine dx_skip (i := 25) rfl (fun ρ1 w1 hj hR => (show ρ1 103 = Value.bool _ from hR.2.1)) (by decide) ?_ | refine dx_skipU (i := 25) rfl (fun ρ1 w1 hj hR => (show ρ1 103 = undef from hR.2.1)) ?_ | refine dx_take (i := 25) rfl (fun ρ1 w1 hj hR => (show ρ1 103 = Value.bool _ from hR.2.1)) (fun ρ1 w1 hj hR => x_load (vs := [_, _, _]) TIs.out (show ρ1 9 = Value.pointer _ from hR.1) (hj.hp.rd_blk_at (i := 0) (n := 3) rfl rfl) rfl) ?_
    refine dx_take_buildSlice (i := 26) (cs := [_, _, _, _, _, _]) rfl (fun ρ1 w1 hj hR => (show ρ1 103 = Value.bool _ from hR.2.2.1)) UIs.out TIs.out (fun ρ1 w1 hj hR => (evp_cons (show ρ1 104 = Value.agg (List.toArray _) from hR.1) (evp_cons (show ρ1 105 = Value.agg (List.toArray _) from hR.2.1) evp_nil))) rfl rfl (by decide) (by decide) rfl ?_
    refine dx_gen (i := 27) (Is (.agg #[.bool (nR (a.d)).neg, .string (nR (a.d)).mag, .int .i64 (nR (a.d)).e])) Is.ext ?_ ?_
    · intro ρ1 w1 hj hR
      obtain ⟨A106, c106, h106, s106⟩ := hR.1
      refine og_guard_take rfl ((show ρ1 103 = Value.bool _ from hR.2.1)) ?_
      exact og_enter rfl (run_callf FnIs.out (evs_cons h106 evs_nil)) (add2 (nR (a.d * twoD (-1))) (nR (a.d * twoD (-1))) (a.d) (by simp only [nR_d] <;> grind) (o k6) (o k6) (g k6) (g k6) A106 c106 _ (hT.hp hj.hp) s106) (fun _ _ hq => ⟨_, hq.1, hq.2, rfl⟩)
    first | refine dx_skip (i := 28) rfl (fun ρ1 w1 hj hR => (show ρ1 103 = Value.bool _ from hR.2.1)) (by decide) ?_ | refine dx_skipU (i := 28) rfl (fun ρ1 w1 hj hR => (show ρ1 103 = undef from hR.2.1)) ?_ | refine dx_take (i := 28) rfl (fun ρ1 w1 hj hR => (show ρ1 103 = Value.bool _ from hR.2.1)) (fun ρ1 w1 hj hR => x_load (vs := [_, _, _]) TIs.out (show ρ1 3 = Value.pointer _ from hR.1) (hj.hp.rd_blk_at (i := 7) (n := 3) rfl rfl) rfl) ?_
    refine dx_take_call (i := 29) rfl (fun ρ1 w1 hj hR => (show ρ1 103 = Value.bool _ from hR.2.1)) (fun ρ1 w1 hj hR => run_callf FnIs.out (evs_cons (show ρ1 108 = Value.agg (List.toArray _) from hR.1) evs_nil)) (fun w1 hj => hfm _ (hT.hp hj.hp)) ?_
    first | refine dx_skip (i := 30) rfl (fun ρ1 w1 hj hR => (show ρ1 103 = Value.bool _ from hR.2.2.1)) (by decide) ?_ | refine dx_skipU (i := 30) rfl (fun ρ1 w1 hj hR => (show ρ1 103 = undef from hR.2.2.1)) ?_ | refine dx_take (i := 30) rfl (fun ρ1 w1 hj hR => (show ρ1 103 = Value.bool _ from hR.2.2.1)) (fun ρ1 w1 hj hR => x_eqN_t (show ρ1 107 = Value.agg (List.toArray _) from hR.1) (show ρ1 109 = Value.agg (List.toArray _) from hR.2.1) (by first | assumption | rfl)) ?_ | refine dx_take (i := 30) rfl (fun ρ1 w1 hj hR => (show ρ1 103 = Value.bool _ from hR.2.2.1)) (fun ρ1 w1 hj hR => x_eqN_f (show ρ1 107 = Value.agg (List.toArray _) from hR.1) (show ρ1 109 = Value.agg (List.toArray _) from hR.2.1) (by assumption)) ?_
    first | refine dx_val (i := 31) (fun ρ1 w1 hj hR => x_pick_t (show ρ1 103 = Value.bool _ from hR.1) (show ρ1 110 = Value.bool _ from hR.2.1)) ?_ | refine dx_val (i := 31) (fun ρ1 w1 hj hR => x_pick_f (show ρ1 103 = Value.bool _ from hR.1) rfl) ?_
    refine dx_val (i := 32) (fun ρ1 w1 hj hR => x_move (show ρ1 111 = Value.bool _ from hR.1)) ?_
    first | refine dx_skip (i := 33) rfl (fun ρ1 w1 hj hR => (show ρ1 112 = Value.bool _ from hR.2.1)) (by decide) ?_ | refine dx_skipU (i := 33) rfl (fun ρ1 w1 hj hR => (show ρ1 112 = undef from hR.2.1)) ?_ | refine dx_take (i := 33) rfl (fun ρ1 w1 hj hR => (show ρ1 112 = Value.bool _ from hR.2.1)) (fun ρ1 w1 hj hR => x_load (vs := [_, _, _]) TIs.out (show ρ1 7 = Value.pointer _ from hR.1) (hj.hp.rd_blk_at (i := 3) (n := 3) rfl rfl) rfl) ?_
    refine dx_take_call (i := 34) rfl (fun ρ1 w1 hj hR => (show ρ1 112 = Value.bool _ from hR.2.1)) (fun ρ1 w1 hj hR => run_callf FnIs.out (evs_cons (show ρ1 113 = Value.agg (List.toArray _) from hR.1) evs_nil)) (fun w1 hj => hfs _ (hT.hp hj.hp)) ?_
    first | refine dx_skip (i := 35) rfl (fun ρ1 w1 hj hR => (show ρ1 112 = Value.bool _ from hR.2.1)) (by decide) ?_ | refine dx_skipU (i := 35) rfl (fun ρ1 w1 hj hR => (show ρ1 112 = undef from hR.2.1)) ?_ | refine dx_take (i := 35) rfl (fun ρ1 w1 hj hR => (show ρ1 112 = Value.bool _ from hR.2.1)) (fun ρ1 w1 hj hR => x_load (vs := [_, _, _]) TIs.out (show ρ1 7 = Value.pointer _ from hR.1) (hj.hp.rd_blk_at (i := 3) (n := 3) rfl rfl) rfl) ?_
    first | refine dx_skip (i := 36) rfl (fun ρ1 w1 hj hR => (show ρ1 112 = Value.bool _ from hR.2.2.1)) (by decide) ?_ | refine dx_skipU (i := 36) rfl (fun ρ1 w1 hj hR => (show ρ1 112 = undef from hR.2.2.1)) ?_ | refine dx_take (i := 36) rfl (fun ρ1 w1 hj hR => (show ρ1 112 = Value.bool _ from hR.2.2.1)) (fun ρ1 w1 hj hR => x_eqN_t (show ρ1 114 = Value.agg (List.toArray _) from hR.1) (show ρ1 115 = Value.agg (List.toArray _) from hR.2.1) (by first | assumption | rfl)) ?_ | refine dx_take (i := 36) rfl (fun ρ1 w1 hj hR => (show ρ1 112 = Value.bool _ from hR.2.2.1)) (fun ρ1 w1 hj hR => x_eqN_f (show ρ1 114 = Value.agg (List.toArray _) from hR.1) (show ρ1 115 = Value.agg (List.toArray _) from hR.2.1) (by assumption)) ?_
    first | refine dx_val (i := 37) (fun ρ1 w1 hj hR => x_pick_t (show ρ1 112 = Value.bool _ from hR.1) (show ρ1 116 = Value.bool _ from hR.2.1)) ?_ | refine dx_val (i := 37) (fun ρ1 w1 hj hR => x_pick_f (show ρ1 112 = Value.bool _ from hR.1) rfl) ?_
    refine dx_val (i := 38) (fun ρ1 w1 hj hR => x_move (show ρ1 117 = Value.bool _ from hR.1)) ?_
    first | refine dx_skip (i := 39) rfl (fun ρ1 w1 hj hR => (show ρ1 118 = Value.bool _ from hR.2.1)) (by decide) ?_ | refine dx_skipU (i := 39) rfl (fun ρ1 w1 hj hR => (show ρ1 118 = undef from hR.2.1)) ?_ | refine dx_take (i := 39) rfl (fun ρ1 w1 hj hR => (show ρ1 118 = Value.bool _ from hR.2.1)) (fun ρ1 w1 hj hR => x_load (vs := [_, _, _]) TIs.out (show ρ1 8 = Value.pointer _ from hR.1) (hj.hp.rd_blk_at (i := 2) (n := 3) rfl rfl) rfl) ?_
    refine dx_take_call (i := 40) rfl (fun ρ1 w1 hj hR => (show ρ1 118 = Value.bool _ from hR.2.1)) (fun ρ1 w1 hj hR => run_callf FnIs.out (evs_cons (show ρ1 119 = Value.agg (List.toArray _) from hR.1) evs_nil)) (fun w1 hj => hfp _ (hT.hp hj.hp)) ?_
    first | refine dx_skip (i := 41) rfl (fun ρ1 w1 hj hR => (show ρ1 118 = Value.bool _ from hR.2.1)) (by decide) ?_ | refine dx_skipU (i := 41) rfl (fun ρ1 w1 hj hR => (show ρ1 118 = undef from hR.2.1)) ?_ | refine dx_take (i := 41) rfl (fun ρ1 w1 hj hR => (show ρ1 118 = Value.bool _ from hR.2.1)) (fun ρ1 w1 hj hR => x_load (vs := [_, _, _]) TIs.out (show ρ1 8 = Value.pointer _ from hR.1) (hj.hp.rd_blk_at (i := 2) (n := 3) rfl rfl) rfl) ?_
    first | refine dx_skip (i := 42) rfl (fun ρ1 w1 hj hR => (show ρ1 118 = Value.bool _ from hR.2.2.1)) (by decide) ?_ | refine dx_skipU (i := 42) rfl (fun ρ1 w1 hj hR => (show ρ1 118 = undef from hR.2.2.1)) ?_ | refine dx_take (i := 42) rfl (fun ρ1 w1 hj hR => (show ρ1 118 = Value.bool _ from hR.2.2.1)) (fun ρ1 w1 hj hR => x_eqN_t (show ρ1 120 = Value.agg (List.toArray _) from hR.1) (show ρ1 121 = Value.agg (List.toArray _) from hR.2.1) (by first | assumption | rfl)) ?_ | refine dx_take (i := 42) rfl (fun ρ1 w1 hj hR => (show ρ1 118 = Value.bool _ from hR.2.2.1)) (fun ρ1 w1 hj hR => x_eqN_f (show ρ1 120 = Value.agg (List.toArray _) from hR.1) (show ρ1 121 = Value.agg (List.toArray _) from hR.2.1) (by assumption)) ?_
    first | refine dx_val (i := 43) (fun ρ1 w1 hj hR => x_pick_t (show ρ1 118 = Value.bool _ from hR.1) (show ρ1 122 = Value.bool _ from hR.2.1)) ?_ | refine dx_val (i := 43) (fun ρ1 w1 hj hR => x_pick_f (show ρ1 118 = Value.bool _ from hR.1) rfl) ?_
    refine dx_val (i := 44) (fun ρ1 w1 hj hR => x_move (show ρ1 123 = Value.bool _ from hR.1)) ?_
    first | refine dx_skip (i := 45) rfl (fun ρ1 w1 hj hR => (show ρ1 124 = Value.bool _ from hR.2.1)) (by decide) ?_ | refine dx_skipU (i := 45) rfl (fun ρ1 w1 hj hR => (show ρ1 124 = undef from hR.2.1)) ?_ | refine dx_take (i := 45) rfl (fun ρ1 w1 hj hR => (show ρ1 124 = Value.bool _ from hR.2.1)) (fun ρ1 w1 hj hR => x_load (vs := [_, _, _]) TIs.out (show ρ1 3 = Value.pointer _ from hR.1) (hj.hp.rd_blk_at (i := 7) (n := 3) rfl rfl) rfl) ?_
    first | refine dx_skip (i := 46) rfl (fun ρ1 w1 hj hR => (show ρ1 124 = Value.bool _ from hR.2.1)) (by decide) ?_ | refine dx_skipU (i := 46) rfl (fun ρ1 w1 hj hR => (show ρ1 124 = undef from hR.2.1)) ?_ | refine dx_take (i := 46) rfl (fun ρ1 w1 hj hR => (show ρ1 124 = Value.bool _ from hR.2.1)) (fun ρ1 w1 hj hR => x_load (vs := [_, _, _]) TIs.out (show ρ1 3 = Value.pointer _ from hR.1) (hj.hp.rd_blk_at (i := 7) (n := 3) rfl rfl) rfl) ?_
    refine dx_take_call (i := 47) rfl (fun ρ1 w1 hj hR => (show ρ1 124 = Value.bool _ from hR.2.1)) (fun ρ1 w1 hj hR => run_callf FnIs.out (evs_cons (show ρ1 126 = Value.agg (List.toArray _) from hR.1) evs_nil)) (fun w1 hj => hng _ (hT.hp hj.hp)) ?_
    refine dx_take_buildSlice (i := 48) (cs := [_, _, _, _, _, _]) rfl (fun ρ1 w1 hj hR => (show ρ1 124 = Value.bool _ from hR.2.2.1)) UIs.out TIs.out (fun ρ1 w1 hj hR => (evp_cons (show ρ1 125 = Value.agg (List.toArray _) from hR.1) (evp_cons (show ρ1 127 = Value.agg (List.toArray _) from hR.2.1) evp_nil))) rfl rfl (by decide) (by decide) rfl ?_
    refine dx_gen (i := 49) (Is (.agg #[.bool false, .string (ByteArray.mk #[]), .int .i64 0])) Is.ext ?_ ?_
    · intro ρ1 w1 hj hR
      obtain ⟨A128, c128, h128, s128⟩ := hR.1
      refine og_guard_take rfl ((show ρ1 124 = Value.bool _ from hR.2.1)) ?_
      exact og_enter rfl (run_callf FnIs.out (evs_cons h128 evs_nil)) (add2 a (nR (-a.d)) (0) (by simp only [nR_d] <;> grind) oa (o k7) ka (g k7) A128 c128 _ (hT.hp hj.hp) s128) (fun _ _ hq => ⟨_, hq.1, hq.2, rfl⟩)
    first | refine dx_skip (i := 50) rfl (fun ρ1 w1 hj hR => (show ρ1 124 = Value.bool _ from hR.1)) (by decide) ?_ | refine dx_skipU (i := 50) rfl (fun ρ1 w1 hj hR => (show ρ1 124 = undef from hR.1)) ?_ | refine dx_take (i := 50) rfl (fun ρ1 w1 hj hR => (show ρ1 124 = Value.bool _ from hR.1)) (fun ρ1 w1 hj hR => x_build (cs := [_, _, _]) TIs.out PIs.out evp_nil rfl) ?_
    refine dx_nil ?_
    intro f W hJ hV _
    have hb_7 := hJ.bl
    obtain ⟨v130, v129, v128, v127, v126, v125, v124, v123, v122, v121, v120, v119, v118, v117, v116, v115, v114, v113, v112, v111, v110, v109, v108, v107, v106, v105, v104, v103, v102, v101, v100, v99, v98, v97, v96, v95, v94, v93, v92, v91, v90, v89, v88, v87, v86, v85, v84, v83, v82, v81, v80, _⟩ := hV
    have e80 : f 0 = _ := v80
    have e81 : f 1 = _ := v81
    obtain ⟨A82, c82, e82, f82⟩ : Rows _ _ _ (f 2) W := v82
    have e83 : f 3 = _ := v83
    have e84 : f 4 = _ := v84
    have e85 : f 5 = _ := v85
    obtain ⟨A86, c86, e86, f86⟩ : Rows _ _ _ (f 6) W := v86
    have e87 : f 7 = _ := v87
    have e88 : f 8 = _ := v88
    have e89 : f 9 = _ := v89
    obtain ⟨A90, c90, e90, f90⟩ : Rows _ _ _ (f 10) W := v90
    have e91 : f 11 = _ := v91
    obtain ⟨A92, c92, e92, f92⟩ : Rows _ _ _ (f 12) W := v92
    have e93 : f 13 = _ := v93
    have e94 : f 14 = _ := v94
    have e95 : f 15 = _ := v95
    have e96 : f 16 = _ := v96
    have e97 : f 17 = _ := v97
    have e98 : f 18 = _ := v98
    have e99 : f 19 = _ := v99
    have e100 : f 20 = _ := v100
    have e101 : f 21 = _ := v101
    have e102 : f 22 = _ := v102
    have e103 : f 23 = _ := v103
    have e104 : f 24 = _ := v104
    have e105 : f 25 = _ := v105
    obtain ⟨A106, c106, e106, f106⟩ : Rows _ _ _ (f 26) W := v106
    have e107 : f 27 = _ := v107
    have e108 : f 28 = _ := v108
    have e109 : f 29 = _ := v109
    have e110 : f 30 = _ := v110
    have e111 : f 31 = _ := v111
    have e112 : f 32 = _ := v112
    have e113 : f 33 = _ := v113
    have e114 : f 34 = _ := v114
    have e115 : f 35 = _ := v115
    have e116 : f 36 = _ := v116
    have e117 : f 37 = _ := v117
    have e118 : f 38 = _ := v118
    have e119 : f 39 = _ := v119
    have e120 : f 40 = _ := v120
    have e121 : f 41 = _ := v121
    have e122 : f 42 = _ := v122
    have e123 : f 43 = _ := v123
    have e124 : f 44 = _ := v124
    have e125 : f 45 = _ := v125
    have e126 : f 46 = _ := v126
    have e127 : f 47 = _ := v127
    obtain ⟨A128, c128, e128, f128⟩ : Rows _ _ _ (f 48) W := v128
    have e129 : f 49 = _ := v129
    have e130 : f 50 = _ := v130
    replace hh := hJ.hp
    refine wl_cast (updL_K (eql_cons e130 (eql_cons e129 (eql_cons e128 (eql_cons e127 (eql_cons e126 (eql_cons e125 (eql_cons e124 (eql_cons e123 (eql_cons e122 (eql_cons e121 (eql_cons e120 (eql_cons e119 (eql_cons e118 (eql_cons e117 (eql_cons e116 (eql_cons e115 (eql_cons e114 (eql_cons e113 (eql_cons e112 (eql_cons e111 (eql_cons e110 (eql_cons e109 (eql_cons e108 (eql_cons e107 (eql_cons e106 (eql_cons e105 (eql_cons e104 (eql_cons e103 (eql_cons e102 (eql_cons e101 (eql_cons e100 (eql_cons e99 (eql_cons e98 (eql_cons e97 (eql_cons e96 (eql_cons e95 (eql_cons e94 (eql_cons e93 (eql_cons e92 (eql_cons e91 (eql_cons e90 (eql_cons e89 (eql_cons e88 (eql_cons e87 (eql_cons e86 (eql_cons e85 (eql_cons e84 (eql_cons e83 (eql_cons e82 (eql_cons e81 (eql_cons e80 eql_nil)))))))))))))))))))))))))))))))))))))))))))))))))))) ?_
    dsimp only [updK]
    clear e80 e81 e82 e83 e84 e85 e86 e87 e88 e89 e90 e91 e92 e93 e94 e95 e96 e97 e98 e99 e100 e101 e102 e103 e104 e105 e106 e107 e108 e109 e110 e111 e112 e113 e114 e115 e116 e117 e118 e119 e120 e121 e122 e123 e124 e125 e126 e127 e128 e129 e130 hJ
    first | (refine wl_guard_skip (by decide) rfl rfl (by decide) ?_) | (refine wl_guard_take rfl rfl ?_; (first | refine s_eqN_t rfl rfl (by first | assumption | rfl) (by decide) ?_ | refine s_eqN_f rfl rfl (by assumption) (by decide) ?_)) | (refine wl_guard_skipV (by decide) rfl rfl ?_)
    first | refine s_pick_t rfl (ev_bool rfl) (by decide) ?_ | refine s_pick_f rfl (ev_bool rfl) (by decide) ?_
    refine s_move (ev_bool rfl) (by decide) ?_
    -- at guarded Op.call { callee := Callee.value (Operand.func 6), args := #[], argTypes := #[] 
    refine wl_guard_take rfl rfl ?_
    refine s_callf (awake_calls _ (hT.hp hh)) FnIs.out rfl (by decide) ?_
    rintro e_ w134 ⟨rfl, hb_⟩
    refine ⟨_, rfl, ?_⟩
    replace hh := hh.ext hb_
    first | refine s_pick_t rfl (ev_bool rfl) (by decide) ?_ | refine s_pick_f rfl (ev_bool rfl) (by decide) ?_
    refine s_assign (ev_bool rfl) (by decide) ?_
    refine wl_end ?_
    refine wc_ret ?_
    -- at ('end', 'ret')
    refine ret1 (by first | exact .inr rfl | exact .inl rfl) rfl (v_bool rfl) ?_
    exact ⟨rfl, hh.below⟩
end Go.Proofs.YtgljgalcbbjfgaaDoor
