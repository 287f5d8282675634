/- The walks through ogeeref05: spans by definition. -/
import Derived.Test.YthmmofllajkejaaGreatDoorShD
import Derived.Test.YthmmofllajkejaaGreatDoorSpan
import Derived.Test.YthmmofllajkejaaGreatDoorRDy
namespace Go.Proofs.YthmmofllajkejaaGreatDoor
open Go.RowKit
-- umode
theorem yCmpF (a b : NR) (k : Nat) (ha : Fin_ k a) (hb : Fin_ k b) (hk : k ≤ 3000000) (w : World) :
    Calls Tryz.prog 90 #[.agg #[.bool a.neg, .string a.mag, .int .i64 a.e], .agg #[.bool b.neg, .string b.mag, .int .i64 b.e]] w fun r w' => r = .returned (.int .i64 (cmpD a.d b.d)) ∧ Below w.heap.size w w' :=
  yCmp_calls a b w ha.ok hb.ok (hb.sz.ok (by omega)) (by have := ((ha.sz.sub hb.sz).ok (by omega)).1; omega)
theorem ySubF (a b : NR) (k : Nat) (ha : Fin_ k a) (hb : Fin_ k b) (hk : k ≤ 3000000) (w : World) :
    Calls Tryz.prog 131 #[.agg #[.bool a.neg, .string a.mag, .int .i64 a.e], .agg #[.bool b.neg, .string b.mag, .int .i64 b.e]] w fun r w' => r = .returned (.agg #[.bool (nR (a.d - b.d)).neg, .string (nR (a.d - b.d)).mag, .int .i64 (nR (a.d - b.d)).e]) ∧ Below w.heap.size w w' :=
  ySub_calls a b w ha.ok hb.ok (hb.sz.ok (by omega))
theorem rsForm_calls (s : SR) (k : Nat) (w : World) (hs : s.fin k) (hk : k ≤ 3000000) :
    Calls Tryz.prog 91 #[.agg s.cells.toArray] w fun r w' => r = .returned (.agg s.f.cells.toArray) ∧ Below w.heap.size w w' := by
  have hh := Hp.start w
  have hc := fun w1 => yCmpF s.lo s.hi k hs.1 hs.2 hk w1
  have o1 := hs.1.ok
  have o2 := hs.2.ok
  have y1 := fun w1 => yForm_calls s.lo w1 (by have := o1.1; omega) (by have := o1.2; omega) (by have := o1.2; omega)
  have y2 := fun w1 => yForm_calls s.hi w1 (by have := o2.1; omega) (by have := o2.2; omega) (by have := o2.2; omega)
  rcases d_tri s.lo.d s.hi.d with h | h | h
  · rw [cmpD_of_lt h] at hc
    have e1 : s.L = s.lo.d := by unfold SR.L loD; rw [if_neg (by grind)]
    have e2 : s.H = s.hi.d := by unfold SR.H hiD; rw [if_pos h]
    unfold SR.f
    rw [e1, e2]
    refine calls_vc (N := 22) (l := [.agg s.cells.toArray]) Tryz.func91 rfl rfl (by simp) ?_
    refine sr ?_
    refine bxC hh [_,_,_,_,_,_] ?_
    intro b1 w1 hh
    refine alC hh ?_
    intro b2 w2 hh
    refine wl_end (wc_seq (sr (faC ?_)))
    refine lgC hh 1 [_,_,_] (faC ?_)
    refine lgC hh 1 [_,_,_] ?_
    refine s_callf (hc _) FnIs.out rfl (by decide) ?_
    rintro e_ w7 ⟨rfl, hb_⟩
    refine ⟨_, rfl, ?_⟩
    replace hh := hh.ext hb_
    refine gtrC (wl_end (cF (wc_skip (k_then (wc_seq ?_)))))
    refine wc_drawn 5 [[(1, none)], [(15, some 0)], [(16, some 1)], [(1, none)], [(18, some 3)]] [(4, 19), (3, 18), (2, 17), (1, 16), (0, 15)] hh mixed (by kernel_rfl) ?_
    refine dfa ?_
    refine dlg 1 [_,_,_] ?_
    refine dC (fun _ hj => y1 _) ?_
    refine dfa ?_
    refine dlg 1 [_,_,_] ?_
    refine dx_nil ?_
    intro f W hJ hV
    have hb_3 := hJ.bl
    obtain ⟨v19, v18, v17, v16, v15, _⟩ := hV
    replace hh := hJ.hp
    refine wl_cast (updL_K (eql_cons v19 (eql_cons v18 (eql_cons v17 (eql_cons v16 (eql_cons v15 eql_nil)))))) ?_
    dsimp only [updK]
    clear hJ
    refine s_callf (y2 _) FnIs.out rfl (by decide) ?_
    rintro e_ w20 ⟨rfl, hb_⟩
    refine ⟨_, rfl, ?_⟩
    replace hh := hh.ext hb_
    refine bdC [_,_,_,_,_,_] ?_
    refine stC hh 0 [_,_,_,_,_,_] ?_
    intro ws hh
    replace hh : Hp _ (.blk _ _ [_, _, _, _, _, _] _ :: _) _ := hh
    refine wl_end (wc_ret ?_)
    refine retc1 (by first | exact .inr rfl | exact .inl rfl) rfl (r_cell rfl (lv_agg (vs := [_, _, _, _, _, _]) TIs.out (hh.rd_blk_at (i := 0) (n := 6) rfl rfl) rfl) r_nil) ?_
    exact ⟨rfl, hh.below⟩
  · rw [h, cmpD_self] at hc
    have e1 : s.L = s.lo.d := by unfold SR.L loD; rw [if_neg (by grind)]
    have e2 : s.H = s.hi.d := by unfold SR.H hiD; rw [if_neg (by grind)]; exact h
    unfold SR.f
    rw [e1, e2]
    refine calls_vc (N := 22) (l := [.agg s.cells.toArray]) Tryz.func91 rfl rfl (by simp) ?_
    refine sr ?_
    refine bxC hh [_,_,_,_,_,_] ?_
    intro b1 w1 hh
    refine alC hh ?_
    intro b2 w2 hh
    refine wl_end (wc_seq (sr (faC ?_)))
    refine lgC hh 1 [_,_,_] (faC ?_)
    refine lgC hh 1 [_,_,_] ?_
    refine s_callf (hc _) FnIs.out rfl (by decide) ?_
    rintro e_ w7 ⟨rfl, hb_⟩
    refine ⟨_, rfl, ?_⟩
    replace hh := hh.ext hb_
    refine gtrC (wl_end (cF (wc_skip (k_then (wc_seq ?_)))))
    refine wc_drawn 5 [[(1, none)], [(15, some 0)], [(16, some 1)], [(1, none)], [(18, some 3)]] [(4, 19), (3, 18), (2, 17), (1, 16), (0, 15)] hh mixed (by kernel_rfl) ?_
    refine dfa ?_
    refine dlg 1 [_,_,_] ?_
    refine dC (fun _ hj => y1 _) ?_
    refine dfa ?_
    refine dlg 1 [_,_,_] ?_
    refine dx_nil ?_
    intro f W hJ hV
    have hb_3 := hJ.bl
    obtain ⟨v19, v18, v17, v16, v15, _⟩ := hV
    replace hh := hJ.hp
    refine wl_cast (updL_K (eql_cons v19 (eql_cons v18 (eql_cons v17 (eql_cons v16 (eql_cons v15 eql_nil)))))) ?_
    dsimp only [updK]
    clear hJ
    refine s_callf (y2 _) FnIs.out rfl (by decide) ?_
    rintro e_ w20 ⟨rfl, hb_⟩
    refine ⟨_, rfl, ?_⟩
    replace hh := hh.ext hb_
    refine bdC [_,_,_,_,_,_] ?_
    refine stC hh 0 [_,_,_,_,_,_] ?_
    intro ws hh
    replace hh : Hp _ (.blk _ _ [_, _, _, _, _, _] _ :: _) _ := hh
    refine wl_end (wc_ret ?_)
    refine retc1 (by first | exact .inr rfl | exact .inl rfl) rfl (r_cell rfl (lv_agg (vs := [_, _, _, _, _, _]) TIs.out (hh.rd_blk_at (i := 0) (n := 6) rfl rfl) rfl) r_nil) ?_
    exact ⟨rfl, hh.below⟩
  · rw [cmpD_of_gt h] at hc
    have e1 : s.L = s.hi.d := by unfold SR.L loD; rw [if_pos h]
    have e2 : s.H = s.lo.d := by unfold SR.H hiD; rw [if_neg (by grind)]
    unfold SR.f
    rw [e1, e2]
    refine calls_vc (N := 22) (l := [.agg s.cells.toArray]) Tryz.func91 rfl rfl (by simp) ?_
    refine sr ?_
    refine bxC hh [_,_,_,_,_,_] ?_
    intro b1 w1 hh
    refine alC hh ?_
    intro b2 w2 hh
    refine wl_end (wc_seq (sr (faC ?_)))
    refine lgC hh 1 [_,_,_] (faC ?_)
    refine lgC hh 1 [_,_,_] ?_
    refine s_callf (hc _) FnIs.out rfl (by decide) ?_
    rintro e_ w7 ⟨rfl, hb_⟩
    refine ⟨_, rfl, ?_⟩
    replace hh := hh.ext hb_
    refine gtrC (wl_end (cT (wc_region (faC ?_))))
    refine lgC hh 1 [_,_,_] (faC ?_)
    refine lgC hh 1 [_,_,_] (faC ?_)
    refine stC hh 1 [_,_,_] ?_
    intro ws hh
    replace hh : Hp _ (_ :: .blk _ _ [_, _, _, _, _, _] _ :: _) _ := hh
    refine faC ?_
    refine stC hh 1 [_,_,_] ?_
    intro ws hh
    replace hh : Hp _ (_ :: .blk _ _ [_, _, _, _, _, _] _ :: _) _ := hh
    refine wl_end (wc_seq ?_)
    refine wc_drawn 5 [[(1, none)], [(15, some 0)], [(16, some 1)], [(1, none)], [(18, some 3)]] [(4, 19), (3, 18), (2, 17), (1, 16), (0, 15)] hh mixed (by kernel_rfl) ?_
    refine dfa ?_
    refine dlg 1 [_,_,_] ?_
    refine dC (fun _ hj => y2 _) ?_
    refine dfa ?_
    refine dlg 1 [_,_,_] ?_
    refine dx_nil ?_
    intro f W hJ hV
    have hb_3 := hJ.bl
    obtain ⟨v19, v18, v17, v16, v15, _⟩ := hV
    replace hh := hJ.hp
    refine wl_cast (updL_K (eql_cons v19 (eql_cons v18 (eql_cons v17 (eql_cons v16 (eql_cons v15 eql_nil)))))) ?_
    dsimp only [updK]
    clear hJ
    refine s_callf (y1 _) FnIs.out rfl (by decide) ?_
    rintro e_ w20 ⟨rfl, hb_⟩
    refine ⟨_, rfl, ?_⟩
    replace hh := hh.ext hb_
    refine bdC [_,_,_,_,_,_] ?_
    refine stC hh 0 [_,_,_,_,_,_] ?_
    intro ws hh
    replace hh : Hp _ (.blk _ _ [_, _, _, _, _, _] _ :: _) _ := hh
    refine wl_end (wc_ret ?_)
    refine retc1 (by first | exact .inr rfl | exact .inl rfl) rfl (r_cell rfl (lv_agg (vs := [_, _, _, _, _, _]) TIs.out (hh.rd_blk_at (i := 0) (n := 6) rfl rfl) rfl) r_nil) ?_
    exact ⟨rfl, hh.below⟩
theorem cmp_ge (x y : Dyadic) : (0 ≤ cmpD x y) ↔ ¬ x < y := by
  rcases d_tri x y with h | h | h
  · rw [cmpD_of_lt h]; exact ⟨fun h2 => by omega, fun h2 => absurd h h2⟩
  · rw [h, cmpD_self]; exact ⟨fun _ => by grind, fun _ => by omega⟩
  · rw [cmpD_of_gt h]; exact ⟨fun _ => by grind, fun _ => by omega⟩
theorem rsHas_calls (s : SR) (a : NR) (k : Nat) (w : World) (hs : s.fin k) (ha : Fin_ k a) (hk : k ≤ 3000000) :
    Calls Tryz.prog 93 #[.agg s.cells.toArray, .agg #[.bool a.neg, .string a.mag, .int .i64 a.e]] w fun r w' => r = .returned (.bool (s.has a.d)) ∧ Below w.heap.size w w' := by
  have hh := Hp.start w
  have hf := SR.fin_f hs hk
  have h1 := fun w1 => yCmpF (nR s.L) a k hf.1 ha hk w1
  have h2 := fun w1 => yCmpF (nR s.H) a k hf.2 ha hk w1
  simp only [nR_d] at h1 h2
  have e1 := cmp_le s.L a.d
  have e2 := cmp_ge s.H a.d
  generalize cmpD s.L a.d = c1 at *
  generalize cmpD s.H a.d = c2 at *
  unfold SR.has
  by_cases g1 : c1 ≤ 0
  · by_cases g2 : 0 ≤ c2
    · refine calls_vc (N := 19) (l := [.agg s.cells.toArray, .agg #[.bool a.neg, .string a.mag, .int .i64 a.e]]) Tryz.func93 rfl rfl (by simp) ?_
      refine sr ?_
      refine bxC hh [_,_,_,_,_,_] ?_
      intro b2 w2 hh
      refine bxC hh [_,_,_] ?_
      intro b3 w3 hh
      refine aB (wl_end (sr ?_))
      refine lgC hh 1 [_,_,_,_,_,_] ?_
      refine s_callf (rsForm_calls s k _ hs hk) FnIs.out rfl (by decide) ?_
      rintro e_ w6 ⟨rfl, hb_⟩
      refine ⟨_, rfl, ?_⟩
      replace hh := hh.ext hb_
      refine stC hh 1 [_,_,_,_,_,_] ?_
      intro ws hh
      replace hh : Hp _ (_ :: .blk _ _ [_, _, _, _, _, _] _ :: _) _ := hh
      refine wl_end (sr (faC ?_))
      refine lgC hh 1 [_,_,_] ?_
      refine lgC hh 0 [_,_,_] ?_
      refine s_callf (h1 _) FnIs.out rfl (by decide) ?_
      rintro e_ w10 ⟨rfl, hb_⟩
      refine ⟨_, rfl, ?_⟩
      replace hh := hh.ext hb_
      refine leqC (mB ?_)
      first | refine gS ?_ | (refine gT ?_; refine faC ?_) | refine gV ?_
      first | refine gS ?_ | (refine gT ?_; refine lgC hh 1 [_,_,_] ?_) | refine gV ?_
      first | refine gS ?_ | (refine gT ?_; refine lgC hh 0 [_,_,_] ?_) | refine gV ?_
      refine wl_guard_take rfl rfl ?_
      refine s_callf (h2 _) FnIs.out rfl (by decide) ?_
      rintro e_ w16 ⟨rfl, hb_⟩
      refine ⟨_, rfl, ?_⟩
      replace hh := hh.ext hb_
      first | refine gS ?_ | (refine gT ?_; refine geqC ?_) | refine gV ?_
      first | refine pkT ?_ | refine pkF ?_
      refine aB (wl_end (wc_ret ?_))
      refine ret1 (by first | exact .inr rfl | exact .inl rfl) rfl (v_bool rfl) ?_
      exact ⟨by rw [decide_eq_true ⟨e1.1 g1, e2.1 g2⟩], hh.below⟩
    · refine calls_vc (N := 19) (l := [.agg s.cells.toArray, .agg #[.bool a.neg, .string a.mag, .int .i64 a.e]]) Tryz.func93 rfl rfl (by simp) ?_
      refine sr ?_
      refine bxC hh [_,_,_,_,_,_] ?_
      intro b2 w2 hh
      refine bxC hh [_,_,_] ?_
      intro b3 w3 hh
      refine aB (wl_end (sr ?_))
      refine lgC hh 1 [_,_,_,_,_,_] ?_
      refine s_callf (rsForm_calls s k _ hs hk) FnIs.out rfl (by decide) ?_
      rintro e_ w6 ⟨rfl, hb_⟩
      refine ⟨_, rfl, ?_⟩
      replace hh := hh.ext hb_
      refine stC hh 1 [_,_,_,_,_,_] ?_
      intro ws hh
      replace hh : Hp _ (_ :: .blk _ _ [_, _, _, _, _, _] _ :: _) _ := hh
      refine wl_end (sr (faC ?_))
      refine lgC hh 1 [_,_,_] ?_
      refine lgC hh 0 [_,_,_] ?_
      refine s_callf (h1 _) FnIs.out rfl (by decide) ?_
      rintro e_ w10 ⟨rfl, hb_⟩
      refine ⟨_, rfl, ?_⟩
      replace hh := hh.ext hb_
      refine leqC (mB ?_)
      first | refine gS ?_ | (refine gT ?_; refine faC ?_) | refine gV ?_
      first | refine gS ?_ | (refine gT ?_; refine lgC hh 1 [_,_,_] ?_) | refine gV ?_
      first | refine gS ?_ | (refine gT ?_; refine lgC hh 0 [_,_,_] ?_) | refine gV ?_
      refine wl_guard_take rfl rfl ?_
      refine s_callf (h2 _) FnIs.out rfl (by decide) ?_
      rintro e_ w16 ⟨rfl, hb_⟩
      refine ⟨_, rfl, ?_⟩
      replace hh := hh.ext hb_
      first | refine gS ?_ | (refine gT ?_; refine geqC ?_) | refine gV ?_
      first | refine pkT ?_ | refine pkF ?_
      refine aB (wl_end (wc_ret ?_))
      refine ret1 (by first | exact .inr rfl | exact .inl rfl) rfl (v_bool rfl) ?_
      exact ⟨by rw [decide_eq_false fun h => g2 (e2.2 h.2)], hh.below⟩
  · refine calls_vc (N := 19) (l := [.agg s.cells.toArray, .agg #[.bool a.neg, .string a.mag, .int .i64 a.e]]) Tryz.func93 rfl rfl (by simp) ?_
    refine sr ?_
    refine bxC hh [_,_,_,_,_,_] ?_
    intro b2 w2 hh
    refine bxC hh [_,_,_] ?_
    intro b3 w3 hh
    refine aB (wl_end (sr ?_))
    refine lgC hh 1 [_,_,_,_,_,_] ?_
    refine s_callf (rsForm_calls s k _ hs hk) FnIs.out rfl (by decide) ?_
    rintro e_ w6 ⟨rfl, hb_⟩
    refine ⟨_, rfl, ?_⟩
    replace hh := hh.ext hb_
    refine stC hh 1 [_,_,_,_,_,_] ?_
    intro ws hh
    replace hh : Hp _ (_ :: .blk _ _ [_, _, _, _, _, _] _ :: _) _ := hh
    refine wl_end (sr (faC ?_))
    refine lgC hh 1 [_,_,_] ?_
    refine lgC hh 0 [_,_,_] ?_
    refine s_callf (h1 _) FnIs.out rfl (by decide) ?_
    rintro e_ w10 ⟨rfl, hb_⟩
    refine ⟨_, rfl, ?_⟩
    replace hh := hh.ext hb_
    refine leqC (mB ?_)
    first | refine gS ?_ | (refine gT ?_; refine faC ?_) | refine gV ?_
    first | refine gS ?_ | (refine gT ?_; refine lgC hh 1 [_,_,_] ?_) | refine gV ?_
    first | refine gS ?_ | (refine gT ?_; refine lgC hh 0 [_,_,_] ?_) | refine gV ?_
    refine wl_guard_skip (by decide) rfl rfl (by decide) ?_
    first | refine gS ?_ | (refine gT ?_; refine geqC ?_) | refine gV ?_
    first | refine pkT ?_ | refine pkF ?_
    refine aB (wl_end (wc_ret ?_))
    refine ret1 (by first | exact .inr rfl | exact .inl rfl) rfl (v_bool rfl) ?_
    exact ⟨by rw [decide_eq_false fun h => g1 (e1.2 h.1)], hh.below⟩
theorem rsWidth_calls (s : SR) (k : Nat) (w : World) (hs : s.fin k) (hk : k ≤ 3000000) :
    Calls Tryz.prog 95 #[.agg s.cells.toArray] w fun r w' => r = .returned (.agg #[.bool (nR s.wid).neg, .string (nR s.wid).mag, .int .i64 (nR s.wid).e]) ∧ Below w.heap.size w w' := by
  have hh := Hp.start w
  have hf := SR.fin_f hs hk
  have hc := fun w1 => ySubF (nR s.H) (nR s.L) k hf.2 hf.1 hk w1
  simp only [nR_d] at hc
  refine calls_vc (N := 10) (l := [.agg s.cells.toArray]) Tryz.func95 rfl rfl (by simp) ?_
  refine sr ?_
  refine bxC hh [_,_,_,_,_,_] ?_
  intro b1 w1 hh
  refine alC hh ?_
  intro b2 w2 hh
  refine wl_end (sr ?_)
  refine lgC hh 1 [_,_,_,_,_,_] ?_
  refine s_callf (rsForm_calls s k _ hs hk) FnIs.out rfl (by decide) ?_
  rintro e_ w4 ⟨rfl, hb_⟩
  refine ⟨_, rfl, ?_⟩
  replace hh := hh.ext hb_
  refine stC hh 1 [_,_,_,_,_,_] ?_
  intro ws hh
  replace hh : Hp _ (_ :: .blk _ _ [_, _, _, _, _, _] _ :: _) _ := hh
  refine wl_end (sr (faC ?_))
  refine lgC hh 1 [_,_,_] (faC ?_)
  refine lgC hh 1 [_,_,_] ?_
  refine s_callf (hc _) FnIs.out rfl (by decide) ?_
  rintro e_ w9 ⟨rfl, hb_⟩
  refine ⟨_, rfl, ?_⟩
  replace hh := hh.ext hb_
  refine stC hh 0 [_,_,_] ?_
  intro ws hh
  replace hh : Hp _ (.blk _ _ [_, _, _] _ :: _) _ := hh
  refine wl_end (wc_ret ?_)
  refine retc1 (by first | exact .inr rfl | exact .inl rfl) rfl (r_cell rfl (lv_agg (vs := [_, _, _]) TIs.out (hh.rd_blk_at (i := 0) (n := 3) rfl rfl) rfl) r_nil) ?_
  exact ⟨rfl, hh.below⟩
theorem rsMid_calls (s : SR) (k : Nat) (w : World) (hs : s.fin k) (hk : k ≤ 3000000) :
    Calls Tryz.prog 101 #[.agg s.cells.toArray] w fun r w' => r = .returned (.agg #[.bool (nR s.mid).neg, .string (nR s.mid).mag, .int .i64 (nR s.mid).e]) ∧ Below w.heap.size w w' := by
  have hh := Hp.start w
  have hc := fun w1 => yPlus_calls s.lo s.hi w1 hs.1.ok hs.2.ok
  have ho := (hs.1.sz.add hs.2.sz).ok (by omega)
  have hsh := fun w1 => yShift_calls (nR (s.lo.d + s.hi.d)) (-1) w1 (by have := ho.1; omega) (by have := ho.2; omega) (by have := ho.2; omega) (by omega) (by omega)
  rw [nR_d] at hsh
  refine calls_vc (N := 9) (l := [.agg s.cells.toArray]) Tryz.func101 rfl rfl (by simp) ?_
  refine sr ?_
  refine bxC hh [_,_,_,_,_,_] ?_
  intro b1 w1 hh
  refine alC hh ?_
  intro b2 w2 hh
  refine wl_end (sr (faC ?_))
  refine lgC hh 1 [_,_,_] (faC ?_)
  refine lgC hh 1 [_,_,_] ?_
  refine s_callf (hc _) FnIs.out rfl (by decide) ?_
  rintro e_ w7 ⟨rfl, hb_⟩
  refine ⟨_, rfl, ?_⟩
  replace hh := hh.ext hb_
  refine s_callf (hsh _) FnIs.out rfl (by decide) ?_
  rintro e_ w8 ⟨rfl, hb_⟩
  refine ⟨_, rfl, ?_⟩
  replace hh := hh.ext hb_
  refine stC hh 0 [_,_,_] ?_
  intro ws hh
  replace hh : Hp _ (.blk _ _ [_, _, _] _ :: _) _ := hh
  refine wl_end (wc_ret ?_)
  refine retc1 (by first | exact .inr rfl | exact .inl rfl) rfl (r_cell rfl (lv_agg (vs := [_, _, _]) TIs.out (hh.rd_blk_at (i := 0) (n := 3) rfl rfl) rfl) r_nil) ?_
  exact ⟨rfl, hh.below⟩
end Go.Proofs.YthmmofllajkejaaGreatDoor
