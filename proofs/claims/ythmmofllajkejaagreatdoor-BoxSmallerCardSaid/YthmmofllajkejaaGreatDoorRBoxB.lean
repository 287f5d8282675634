/- The walks through ogeeref11, second part: widest axis, volume, corners, places. -/
import Derived.Test.YthmmofllajkejaaGreatDoorShD
import Derived.Test.YthmmofllajkejaaGreatDoorRBox
import Derived.Test.YthmmofllajkejaaGreatDoorBoxI
namespace Go.Proofs.YthmmofllajkejaaGreatDoor
open Go.RowKit
-- umode
-- skipu
theorem wid_max : ∀ {b : List SR}, b ≠ [] → ∃ x ∈ b, ∀ u ∈ b, ¬ x.wid < u.wid
  | [], h => absurd rfl h
  | [s], _ => ⟨s, List.mem_singleton_self s, fun u hu h => by rw [List.mem_singleton.1 hu] at h; grind⟩
  | s :: t :: l, _ => by
    obtain ⟨x, hx, hm⟩ := wid_max (b := t :: l) (List.cons_ne_nil _ _)
    by_cases g : x.wid < s.wid
    · refine ⟨s, List.mem_cons_self, fun u hu h => ?_⟩
      rcases List.mem_cons.1 hu with rfl | hu
      · grind
      · have := hm u hu
        grind
    · refine ⟨x, List.mem_cons_of_mem _ hx, fun u hu h => ?_⟩
      rcases List.mem_cons.1 hu with rfl | hu
      · exact g h
      · exact hm u hu h
theorem rbWidest_calls (L : Option Addr) (n c : Nat) (b : List SR) (k : Nat) (w : World) (hS : Sl w L n 6 (recs SR.cells b)) (hb : ∀ s ∈ b, s.fin k) (hn : n ≤ 1000000) (hk : k ≤ 1000000) :
    Calls Tryz.prog 38 #[.slice L n c] w fun r w' => (∃ v, r = .returned (.int .i64 v) ∧ ((b = [] ∧ v = -1) ∨ ∃ (m : Nat) (s : SR), b[m]? = some s ∧ v = m ∧ (∀ u ∈ b, ¬ s.wid < u.wid) ∧ ∀ (j : Nat) (t : SR), j < m → b[j]? = some t → ∃ u ∈ b, t.wid < u.wid)) ∧ Below w.heap.size w w' := by
  have hh := Hp.start w
  have hln := hS.recLen SR.len (by decide)
  refine calls_vc (N := 35) (l := [.slice L n c]) Tryz.func38 rfl rfl (by simp) ?_
  refine sr (aI (wl_end (wc_seq (sr (aI (wl_end (wc_block ?_)))))))
  refine wc_loop1 [2, 3, 4, 5, 6, 7, 8, 9, 10, 11, 12, 13, 14, 15, 16, 17, 18, 19, 20, 21, 22, 23, 24, 25, 26, 27, 28, 29, 30, 31, 32, 33, 34] 3
    (fun v w' => ∃ i : Nat, i ≤ n ∧ v = .int .i64 i ∧ (∀ (j : Nat) (t : SR), j < i → b[j]? = some t → ∃ u ∈ b, t.wid < u.wid) ∧ Hp w [] w')
    (fun v _ => n - (intOf v).toNat) ?_ ?_
  · exact ⟨0, Nat.zero_le _, rfl, fun _ _ h => absurd h (Nat.not_lt_zero _), hh⟩
  · clear hh
    rintro ρ' v w' ⟨i, hi, rfl, hall, hh⟩
    by_cases hlt : i < n
    · obtain ⟨s, hs⟩ := get_of_lt (l := b) (k := i) (by omega)
      have ms := List.mem_of_getElem? hs
      obtain ⟨ad, rfl, hr⟩ := hS.at_ (by omega)
      refine wc_seq (sr (mI (mL (lenC ?_))))
      refine lssC (wl_end (cT (wc_skip (k_then (wc_seq (wc_block (sr (aB (wl_end (wc_seq (wc_seq ?_)))))))))))
      refine wc_region (aI (wl_end (wc_block ?_)))
      refine wc_loop2 [4, 5, 12, 13, 14, 15, 16, 17, 18, 19, 20, 21, 22, 23, 24, 25, 26, 27, 28, 29, 30, 31, 32] 4 5
        (fun v4 v5 w' => ∃ (j : Nat) (q : Bool), j ≤ n ∧ v5 = .int .i64 j ∧ v4 = .bool q ∧ (q = true ↔ ∀ u ∈ b.take j, ¬ s.wid < u.wid) ∧ Hp w [] w')
        (fun _ v _ => n - (intOf v).toNat) ?_ ?_
      · exact ⟨0, true, Nat.zero_le _, rfl, rfl, ⟨fun _ u hu => (nomatch hu), fun _ => rfl⟩, hh⟩
      · clear hh
        rintro ρ2 v4 v5 w2 ⟨j, q, hj, rfl, rfl, hq, hh⟩
        by_cases hjn : j < n
        · obtain ⟨u, hu⟩ := get_of_lt (l := b) (k := j) (by omega)
          have mu := List.mem_of_getElem? hu
          cases q with
          | false =>
            have hno : ¬ ∀ u ∈ b.take j, ¬ s.wid < u.wid := fun h => by cases hq.2 h
            refine wc_seq (sr (mI (mL (lenC ?_))))
            refine lssC (wl_end (cT (wc_skip (k_then (wc_seq (wc_block ?_))))))
            refine wc_drawn 11 [[(4, none)], [(18, some 0)], [(0, none), (19, some 1)], [(3, none), (19, some 1)], [(20, some 2), (21, some 3), (19, some 1)], [(22, some 4), (19, some 1)], [(23, some 5), (19, some 1)], [(0, none), (19, some 1)], [(5, none), (19, some 1)], [(25, some 7), (26, some 8), (19, some 1)], [(27, some 9), (19, some 1)]] [(10, 28), (9, 27), (8, 26), (7, 25), (6, 24), (5, 23), (4, 22), (3, 21), (2, 20), (1, 19), (0, 18)] hh mixed (by kernel_rfl) ?_
            refine dmB ?_
            refine dmB ?_
            first | refine dS ?_ | refine dU ?_ | refine dG (dmL ?_)
            first | refine dS ?_ | refine dU ?_ | refine dG (dmI ?_)
            first | refine dS ?_ | refine dU ?_ | refine dG (dis (i) ?_)
            first | refine dS ?_ | refine dU ?_ | refine dG (dLF [_,_,_,_,_,_] (fun _ hj => trivial) ?_)
            first | refine dS ?_ | refine dU ?_
            first | refine dS ?_ | refine dU ?_ | refine dG (dmL ?_)
            first | refine dS ?_ | refine dU ?_ | refine dG (dmI ?_)
            first | refine dS ?_ | refine dU ?_ | refine dG (dis (j) ?_)
            first | refine dS ?_ | refine dU ?_ | refine dG (dLF [_,_,_,_,_,_] (fun _ hj => trivial) ?_)
            refine dx_nil ?_
            intro f W hJ hV
            have hb_8 := hJ.bl
            obtain ⟨v28, v27, v26, v25, v24, v23, v22, v21, v20, v19, v18, _⟩ := hV
            replace hh := hJ.hp
            refine wl_cast (updL_K (eql_cons v28 (eql_cons v27 (eql_cons v26 (eql_cons v25 (eql_cons v24 (eql_cons v23 (eql_cons v22 (eql_cons v21 (eql_cons v20 (eql_cons v19 (eql_cons v18 eql_nil)))))))))))) ?_
            dsimp only [updK]
            clear hJ
            refine wl_guard_skip (by decide) rfl rfl (by decide) ?_
            refine wl_guard_skip (by decide) rfl rfl (by decide) ?_
            first | refine gS ?_ | (refine gT ?_; refine geqC ?_) | refine gV ?_
            first | refine pkT ?_ | refine pkF ?_
            refine aB (wl_nil (b_norm (k_then (wc_region (mI ?_)))))
            refine addC (aI (wl_nil (k_then ?_)))
            refine ⟨⟨j + 1, false, by omega, rfl, rfl, ⟨fun h => (by cases h), fun h => absurd (fun x hx => h x (by rw [take_snoc hu]; exact List.mem_append_left _ hx)) hno⟩, hh⟩, by show n - (j + 1) < n - j; omega, ?_⟩
            (repeat (first | exact agree_mask _ _ _ | refine agree_upd rfl ?_ | refine agree_mask2 rfl ?_))
          | true =>
            have hall2 := hq.1 rfl
            have hw1 := fun w1 => rsWidth_calls s k w1 (hb s ms) (by omega)
            have hw2 := fun w1 => rsWidth_calls u k w1 (hb u mu) (by omega)
            have hc := fun w1 => yCmpF (nR s.wid) (nR u.wid) (k + 1) (Fin_.of (SR.szw (hb s ms)) (by omega)) (Fin_.of (SR.szw (hb u mu)) (by omega)) (by omega) w1
            rw [nR_d, nR_d] at hc
            have e := cmp_geq s.wid u.wid
            generalize cmpD s.wid u.wid = cc at *
            by_cases g : 0 ≤ cc
            · refine wc_seq (sr (mI (mL (lenC ?_))))
              refine lssC (wl_end (cT (wc_skip (k_then (wc_seq (wc_block ?_))))))
              refine wc_drawn 11 [[(4, none)], [(18, some 0)], [(0, none), (19, some 1)], [(3, none), (19, some 1)], [(20, some 2), (21, some 3), (19, some 1)], [(22, some 4), (19, some 1)], [(23, some 5), (19, some 1)], [(0, none), (19, some 1)], [(5, none), (19, some 1)], [(25, some 7), (26, some 8), (19, some 1)], [(27, some 9), (19, some 1)]] [(10, 28), (9, 27), (8, 26), (7, 25), (6, 24), (5, 23), (4, 22), (3, 21), (2, 20), (1, 19), (0, 18)] hh mixed (by kernel_rfl) ?_
              refine dmB ?_
              refine dmB ?_
              first | refine dS ?_ | refine dU ?_ | refine dG (dmL ?_)
              first | refine dS ?_ | refine dU ?_ | refine dG (dmI ?_)
              first | refine dS ?_ | refine dU ?_ | refine dG (dis (i) ?_)
              first | refine dS ?_ | refine dU ?_ | refine dG (dLF [_,_,_,_,_,_] (fun _ hj => (hr.ext hj.hp.below).recAt SR.len hs) ?_)
              refine dx_take_call (i := 6) rfl (fun ρ1 w1 hj hR => (show ρ1 19 = Value.bool _ from hR.2.1)) (fun ρ1 w1 hj hR => run_callf FnIs.out (evs_cons (show ρ1 23 = Value.agg (List.toArray _) from hR.1) evs_nil)) (fun w1 hj => hw1 _) ?_
              first | refine dS ?_ | refine dU ?_ | refine dG (dmL ?_)
              first | refine dS ?_ | refine dU ?_ | refine dG (dmI ?_)
              first | refine dS ?_ | refine dU ?_ | refine dG (dis (j) ?_)
              first | refine dS ?_ | refine dU ?_ | refine dG (dLF [_,_,_,_,_,_] (fun _ hj => (hr.ext hj.hp.below).recAt SR.len hu) ?_)
              refine dx_nil ?_
              intro f W hJ hV
              have hb_8 := hJ.bl
              obtain ⟨v28, v27, v26, v25, v24, v23, v22, v21, v20, v19, v18, _⟩ := hV
              replace hh := hJ.hp
              refine wl_cast (updL_K (eql_cons v28 (eql_cons v27 (eql_cons v26 (eql_cons v25 (eql_cons v24 (eql_cons v23 (eql_cons v22 (eql_cons v21 (eql_cons v20 (eql_cons v19 (eql_cons v18 eql_nil)))))))))))) ?_
              dsimp only [updK]
              clear hJ
              refine wl_guard_take rfl rfl ?_
              refine s_callf (hw2 _) FnIs.out rfl (by decide) ?_
              rintro e_ w29 ⟨rfl, hb_⟩
              refine ⟨_, rfl, ?_⟩
              replace hh := hh.ext hb_
              refine wl_guard_take rfl rfl ?_
              refine s_callf (hc _) FnIs.out rfl (by decide) ?_
              rintro e_ w30 ⟨rfl, hb_⟩
              refine ⟨_, rfl, ?_⟩
              replace hh := hh.ext hb_
              first | refine gS ?_ | (refine gT ?_; refine geqC ?_) | refine gV ?_
              first | refine pkT ?_ | refine pkF ?_
              refine aB (wl_nil (b_norm (k_then (wc_region (mI ?_)))))
              refine addC (aI (wl_nil (k_then ?_)))
              refine ⟨⟨j + 1, true, by omega, rfl, rfl, ⟨fun _ x hx => ?_, fun _ => rfl⟩, hh⟩, by show n - (j + 1) < n - j; omega, ?_⟩
              · rw [take_snoc hu, List.mem_append, List.mem_singleton] at hx
                rcases hx with hx | rfl
                · exact hall2 x hx
                · exact e.1 g
              · (repeat (first | exact agree_mask _ _ _ | refine agree_upd rfl ?_ | refine agree_mask2 rfl ?_))
            · refine wc_seq (sr (mI (mL (lenC ?_))))
              refine lssC (wl_end (cT (wc_skip (k_then (wc_seq (wc_block ?_))))))
              refine wc_drawn 11 [[(4, none)], [(18, some 0)], [(0, none), (19, some 1)], [(3, none), (19, some 1)], [(20, some 2), (21, some 3), (19, some 1)], [(22, some 4), (19, some 1)], [(23, some 5), (19, some 1)], [(0, none), (19, some 1)], [(5, none), (19, some 1)], [(25, some 7), (26, some 8), (19, some 1)], [(27, some 9), (19, some 1)]] [(10, 28), (9, 27), (8, 26), (7, 25), (6, 24), (5, 23), (4, 22), (3, 21), (2, 20), (1, 19), (0, 18)] hh mixed (by kernel_rfl) ?_
              refine dmB ?_
              refine dmB ?_
              first | refine dS ?_ | refine dU ?_ | refine dG (dmL ?_)
              first | refine dS ?_ | refine dU ?_ | refine dG (dmI ?_)
              first | refine dS ?_ | refine dU ?_ | refine dG (dis (i) ?_)
              first | refine dS ?_ | refine dU ?_ | refine dG (dLF [_,_,_,_,_,_] (fun _ hj => (hr.ext hj.hp.below).recAt SR.len hs) ?_)
              refine dx_take_call (i := 6) rfl (fun ρ1 w1 hj hR => (show ρ1 19 = Value.bool _ from hR.2.1)) (fun ρ1 w1 hj hR => run_callf FnIs.out (evs_cons (show ρ1 23 = Value.agg (List.toArray _) from hR.1) evs_nil)) (fun w1 hj => hw1 _) ?_
              first | refine dS ?_ | refine dU ?_ | refine dG (dmL ?_)
              first | refine dS ?_ | refine dU ?_ | refine dG (dmI ?_)
              first | refine dS ?_ | refine dU ?_ | refine dG (dis (j) ?_)
              first | refine dS ?_ | refine dU ?_ | refine dG (dLF [_,_,_,_,_,_] (fun _ hj => (hr.ext hj.hp.below).recAt SR.len hu) ?_)
              refine dx_nil ?_
              intro f W hJ hV
              have hb_8 := hJ.bl
              obtain ⟨v28, v27, v26, v25, v24, v23, v22, v21, v20, v19, v18, _⟩ := hV
              replace hh := hJ.hp
              refine wl_cast (updL_K (eql_cons v28 (eql_cons v27 (eql_cons v26 (eql_cons v25 (eql_cons v24 (eql_cons v23 (eql_cons v22 (eql_cons v21 (eql_cons v20 (eql_cons v19 (eql_cons v18 eql_nil)))))))))))) ?_
              dsimp only [updK]
              clear hJ
              refine wl_guard_take rfl rfl ?_
              refine s_callf (hw2 _) FnIs.out rfl (by decide) ?_
              rintro e_ w29 ⟨rfl, hb_⟩
              refine ⟨_, rfl, ?_⟩
              replace hh := hh.ext hb_
              refine wl_guard_take rfl rfl ?_
              refine s_callf (hc _) FnIs.out rfl (by decide) ?_
              rintro e_ w30 ⟨rfl, hb_⟩
              refine ⟨_, rfl, ?_⟩
              replace hh := hh.ext hb_
              first | refine gS ?_ | (refine gT ?_; refine geqC ?_) | refine gV ?_
              first | refine pkT ?_ | refine pkF ?_
              refine aB (wl_nil (b_norm (k_then (wc_region (mI ?_)))))
              refine addC (aI (wl_nil (k_then ?_)))
              refine ⟨⟨j + 1, false, by omega, rfl, rfl, ⟨fun h => (by cases h), fun h => absurd (e.2 (h u (by rw [take_snoc hu]; exact List.mem_append_right _ List.mem_cons_self))) g⟩, hh⟩, by show n - (j + 1) < n - j; omega, ?_⟩
              (repeat (first | exact agree_mask _ _ _ | refine agree_upd rfl ?_ | refine agree_mask2 rfl ?_))
        · rw [List.take_of_length_le (by omega)] at hq
          cases q with
          | true =>
            refine wc_seq (sr (mI (mL (lenC ?_))))
            refine lssC (wl_end (cF ?_))
            refine wc_exit ?_
            refine k_exit (k_exit (b_here (k_then (sr (mB (wl_end (cT (sr (mI (aI (wl_end ?_)))))))))))
            refine wc_ret (b_ret (k_ret (k_ret (b_ret (k_ret ?_)))))
            refine ret1 (by first | exact .inr rfl | exact .inl rfl) rfl (v_int rfl) ?_
            exact ⟨⟨i, rfl, .inr ⟨i, s, hs, rfl, hq.1 rfl, hall⟩⟩, hh.below⟩
          | false =>
            refine wc_seq (sr (mI (mL (lenC ?_))))
            refine lssC (wl_end (cF ?_))
            refine wc_exit ?_
            refine k_exit (k_exit (b_here (k_then (sr (mB (wl_end (cF (wc_skip (b_norm (k_then (wc_region ?_)))))))))))
            refine mI ?_
            refine addC (aI (wl_nil (k_then ?_)))
            refine ⟨⟨i + 1, by omega, rfl, fun j t hj ht => ?_, hh⟩, by show n - (i + 1) < n - i; omega, ?_⟩
            · by_cases hji : j = i
              · subst hji
                rw [hs] at ht
                cases ht
                apply Classical.byContradiction
                intro hno
                have : false = true := hq.2 fun u hu hlt => hno ⟨u, hu, hlt⟩
                cases this
              · exact hall j t (by omega) ht
            · (repeat (first | exact agree_mask _ _ _ | refine agree_upd rfl ?_ | refine agree_mask2 rfl ?_))
    · obtain rfl : i = n := by omega
      refine wc_seq (sr (mI (mL (lenC ?_))))
      refine lssC (wl_end (cF ?_))
      refine wc_exit ?_
      refine k_exit (k_exit (b_here (k_then (sr (aI (wl_end (wc_ret ?_)))))))
      refine ret1 (by first | exact .inr rfl | exact .inl rfl) rfl (v_int rfl) ?_
      refine ⟨⟨-1, rfl, .inl ⟨?_, rfl⟩⟩, hh.below⟩
      rcases hbe : b with _ | ⟨s0, b0⟩
      · rfl
      · exfalso
        obtain ⟨x, hx, hm⟩ := wid_max (b := b) (by rw [hbe]; exact List.cons_ne_nil _ _)
        obtain ⟨j, hj⟩ := List.mem_iff_getElem?.1 hx
        obtain ⟨u, hu, hlt⟩ := hall j x (by have := (List.getElem?_eq_some_iff.1 hj).1; omega) hj
        exact hm u hu hlt
theorem rbVolume_calls (L : Option Addr) (n c : Nat) (b : List SR) (k : Nat) (w : World) (hS : Sl w L n 6 (recs SR.cells b)) (hb : ∀ s ∈ b, s.fin k) (hn : n ≤ 1000000) (hk : (k + 1) * n ≤ 1000000) (hk2 : k ≤ 1000000) :
    Calls Tryz.prog 40 #[.slice L n c] w fun r w' => r = .returned (.agg #[.bool (nR (volB b)).neg, .string (nR (volB b)).mag, .int .i64 (nR (volB b)).e]) ∧ Below w.heap.size w w' := by
  have hln := hS.recLen SR.len (by omega)
  have hh := Hp.start w
  refine calls_vc (N := 20) (l := [.slice L n c]) Tryz.func40 rfl rfl (by simp) ?_
  refine sr ?_
  refine alC hh ?_
  intro b2 w2 hh
  refine wl_end (sr ?_)
  refine s_callf (yOf_calls 1 _ (by omega) (by omega)) FnIs.out rfl (by decide) ?_
  rintro e_ w5 ⟨rfl, hb_⟩
  refine ⟨_, rfl, ?_⟩
  replace hh := hh.ext hb_
  refine alC hh ?_
  intro b3 w3 hh
  refine stC hh 0 [_,_,_] ?_
  intro ws hh
  replace hh : Hp _ (.blk _ _ [_, _, _] _ :: _) _ := hh
  refine wl_end (wc_seq (sr (aI (wl_end (wc_block ?_)))))
  refine wc_loop1 [4, 6, 7, 8, 9, 10, 11, 12, 13, 14, 15, 16, 17, 18] 4
    (fun j w' => ∃ (i : Nat) (S : Dyadic), i ≤ n ∧ j = .int .i64 i ∧ S = volB (b.take i) ∧ Hp w [.blk b3 25 [.bool (nR S).neg, .string (nR S).mag, .int .i64 (nR S).e] (0, 0), .blk b2 25 [.bool false, .string (ByteArray.mk #[]), .int .i64 0] (0, 0)] w')
    (fun j _ => n - (intOf j).toNat) ?_ ?_
  · exact ⟨0, _, Nat.zero_le _, rfl, rfl, hh⟩
  · clear hh
    rintro ρ' j w' ⟨i, S, hi, rfl, hS2, hh⟩
    by_cases hlt : i < n
    · obtain ⟨x, hx⟩ := get_of_lt (l := b) (k := i) (by omega)
      obtain ⟨ad, rfl, hr⟩ := hS.at_ (by omega)
      have hxm := List.mem_of_getElem? hx
      have hS3 : volB (b.take (i + 1)) = S * x.wid := by unfold volB at hS2 ⊢; rw [take_snoc hx, List.map_append, List.map_singleton, prodD_snoc, hS2]
      have hSz : Sz (1 + (k + 1) * i) S := by
        rw [hS2]
        have := Sz.prod (k := k + 1) (l := (b.take i).map SR.wid) (fun y hy => by
          obtain ⟨a, ha, rfl⟩ := List.mem_map.1 hy
          exact SR.szw (hb a (List.mem_of_mem_take ha)))
        rw [List.length_map, List.length_take, Nat.min_eq_left (by omega)] at this
        exact this
      have hki : (k + 1) * i ≤ (k + 1) * n := Nat.mul_le_mul_left _ hi
      obtain ⟨so1, so2, so3⟩ := hSz.ok (by omega)
      obtain ⟨xo1, xo2, xo3⟩ := (SR.szw (hb x hxm)).ok (by omega)
      have hpc := fun w1 => yTimes_calls (nR S) (nR x.wid) w1 (by omega) (by omega) (by omega) (by omega) (by omega) (by omega)
      rw [nR_d, nR_d] at hpc
      refine wc_seq (sr (mI (mL (lenC ?_))))
      refine lssC (wl_end (cT (wc_skip (k_then (wc_seq (wc_block ?_))))))
      refine wc_drawn 6 [[(3, none)], [(0, none)], [(4, none)], [(13, some 1), (14, some 2)], [(15, some 3)], [(16, some 4)]] [(5, 17), (4, 16), (3, 15), (2, 14), (1, 13), (0, 12)] hh mixed (by kernel_rfl) ?_
      refine dlg 0 [_,_,_] ?_
      refine dmL ?_
      refine dmI ?_
      refine dis (i) ?_
      refine dLF [_,_,_,_,_,_] (fun _ hj => (hr.ext hj.hp.below).recAt SR.len hx) ?_
      refine dC (fun _ hj => rsWidth_calls x k _ (hb x hxm) (by omega)) ?_
      refine dx_nil ?_
      intro f W hJ hV
      have hb_5 := hJ.bl
      obtain ⟨v17, v16, v15, v14, v13, v12, _⟩ := hV
      replace hh := hJ.hp
      refine wl_cast (updL_K (eql_cons v17 (eql_cons v16 (eql_cons v15 (eql_cons v14 (eql_cons v13 (eql_cons v12 eql_nil))))))) ?_
      dsimp only [updK]
      clear hJ
      refine s_callf (hpc _) FnIs.out rfl (by decide) ?_
      rintro e_ w18 ⟨rfl, hb_⟩
      refine ⟨_, rfl, ?_⟩
      replace hh := hh.ext hb_
      refine stC hh 0 [_,_,_] ?_
      intro ws hh
      replace hh : Hp _ (.blk _ _ [_, _, _] _ :: _) _ := hh
      refine wl_nil (b_norm (k_then (wc_region (mI ?_))))
      refine addC (aI (wl_nil (k_then ?_)))
      refine ⟨⟨i + 1, _, by omega, rfl, hS3.symm, hh⟩, by show n - (i + 1) < n - i; omega, ?_⟩
      (repeat (first | exact agree_mask _ _ _ | refine agree_upd rfl ?_ | refine agree_mask2 rfl ?_))
    · refine wc_seq (sr (mI (mL (lenC ?_))))
      refine lssC (wl_end (cF ?_))
      refine wc_exit ?_
      refine k_exit (k_exit (b_here (k_then (sr ?_))))
      refine lgC hh 0 [_,_,_] ?_
      refine stC hh 1 [_,_,_] ?_
      intro ws hh
      replace hh : Hp _ (_ :: .blk _ _ [_, _, _] _ :: _) _ := hh
      refine wl_end (wc_ret ?_)
      refine retc1 (by first | exact .inr rfl | exact .inl rfl) rfl (r_cell rfl (lv_agg (vs := [_, _, _]) TIs.out (hh.rd_blk_at (i := 1) (n := 3) rfl rfl) rfl) r_nil) ?_
      rw [List.take_of_length_le (by omega)] at hS2
      rw [hS2]
      exact ⟨rfl, hh.below⟩
theorem rbPlace_calls (L : Option Addr) (n c : Nat) (b : List SR) (M : Option Addr) (m c2 : Nat) (t : List NR) (k : Nat) (w : World) (hS : Sl w L n 6 (recs SR.cells b)) (hb : ∀ s ∈ b, s.fin k) (hS2 : Sl w M m 3 (recs NR.cells t)) (ht : ∀ x ∈ t, x.ok ∧ Sz k x.d) (hn : n ≤ 1000000) (hm : m ≤ 1000000) (hk : k ≤ 1000000) :
    Calls Tryz.prog 47 #[.slice L n c, .slice M m c2] w fun r w' => ∃ A c', r = .returned (.slice A n c') ∧ w'.ownsRow w.heap.size 25 3 (.slice A n c') n (recs NR.cells (b.mapIdx fun i s => placeG t i s.f)) ∧ Below w.heap.size w w' := by
  have hh := Hp.start w
  have hln := hS.recLen SR.len (by decide)
  have hlm := hS2.recLen NR.len (by decide)
  refine calls_vc (N := 40) (l := [.slice L n c, .slice M m c2]) Tryz.func47 rfl rfl (by simp) ?_
  refine sr (aL (wl_end (sr (aL (wl_end (wc_seq (sr (aI (wl_end (wc_block ?_))))))))))
  replace hh := hh.nil_row 25 3
  refine wc_loop2 [5, 6, 7, 8, 9, 10, 11, 12, 13, 14, 15, 16, 17, 18, 19, 20, 21, 22, 23, 24, 25, 26, 27, 28, 29, 30, 31, 32, 33, 34, 35, 36, 37, 38] 5 6
    (fun v3 v w' => ∃ (i c3 : Nat) (A : Option Addr), i ≤ n ∧ v = .int .i64 i ∧ v3 = .slice A i c3 ∧ Hp w [.row A i c3 25 3 (recs NR.cells ((b.take i).mapIdx fun i s => placeG t i s.f))] w')
    (fun _ v _ => n - (intOf v).toNat) ?_ ?_
  · exact ⟨0, 0, none, Nat.zero_le _, rfl, rfl, hh⟩
  · clear hh
    rintro ρ' v3 v w' ⟨i, c3, A, hi, rfl, rfl, hh⟩
    by_cases hlt : i < n
    · obtain ⟨s, hs⟩ := get_of_lt (l := b) (k := i) (by omega)
      have hf := hb s (List.mem_of_getElem? hs)
      obtain ⟨ad, rfl, hr⟩ := hS.at_ (by omega)
      rcases hx : t[i]? with _ | x
      · have him : m ≤ i := by rw [List.getElem?_eq_none_iff] at hx; omega
        have hG : placeG t i s.f = s.f.lo := by unfold placeG; rw [hx]
        refine wc_seq (sr (mI (mL (lenC ?_))))
        refine lssC (wl_end (cT (wc_skip (k_then (wc_seq (wc_block (sr (mL (mI ?_)))))))))
        refine s_indexAddr UIs.out TIs.size rfl rfl (by omega) (by omega) (by decide) ?_
        refine s_load (vs := [_, _, _, _, _, _]) TIs.out rfl ((hr.ext hh.below).recAt SR.len hs) rfl (by decide) ?_
        refine s_callf (rsForm_calls s k _ hf (by omega)) FnIs.out rfl (by decide) ?_
        rintro e_ w19 ⟨rfl, hb_⟩
        refine ⟨_, rfl, ?_⟩
        replace hh := hh.ext hb_
        refine alC hh ?_
        intro b7 w7 hh
        refine stC hh 0 [_,_,_,_,_,_] ?_
        intro ws hh
        replace hh : Hp _ (.blk _ _ [_, _, _, _, _, _] _ :: _) _ := hh
        refine wl_end (sr (faC ?_))
        refine lgC hh 0 [_,_,_] ?_
        refine alC hh ?_
        intro b8 w8 hh
        refine stC hh 0 [_,_,_] ?_
        intro ws hh
        replace hh : Hp _ (.blk _ _ [_, _, _] _ :: _) _ := hh
        refine wl_end (wc_seq (sr (mI (mL (lenC ?_)))))
        refine lssC (wl_end (cF (wc_skip (k_then (wc_region (mL ?_))))))
        refine lgC hh 0 [_,_,_] ?_
        refine wl_buildSlice hh (cs := [_, _, _]) UIs.out TIs.out (evp_cons (ev_agg rfl) evp_nil) rfl rfl (by decide) (by decide) (by decide) rfl (by decide) ?_
        intro b37 w37 hh
        refine wl_append hh (i := 3) rfl rfl rfl (hh.sl_row (i := 0) rfl) UIs.out TIs.out rfl (by decide) (by first | rfl | exact oneCells_u8n _ | exact oneCells_u64s _ | exact oneCells_i64s _ | exact recs_oneCells NR.one _) (by omega) (by omega) (by decide) ?_
        intro A38 c38 w38 hh
        simp only [List.set_cons_zero, List.set_cons_succ] at hh
        replace hh := hh.sub (List.sublist_cons_self _ _)
        refine aL (wl_nil (b_norm (k_then (wc_region (mI ?_)))))
        refine addC (aI (wl_nil (k_then ?_)))
        replace hh := hh.sub (List.Sublist.cons _ (List.Sublist.cons _ (List.Sublist.cons_cons _ List.Sublist.slnil)))
        refine ⟨⟨i + 1, c38, A38, by omega, rfl, rfl, ?_⟩, by show n - (i + 1) < n - i; omega, ?_⟩
        · rw [take_snoc hs, List.mapIdx_concat, List.length_take, Nat.min_eq_left (by omega), recs_append, hG]
          exact hh
        · (repeat (first | exact agree_mask _ _ _ | refine agree_upd rfl ?_ | refine agree_mask2 rfl ?_))
      · have him : i < m := by have := (List.getElem?_eq_some_iff.1 hx).1; omega
        have hG : placeG t i s.f = nR (s.f.at_ x.d) := by unfold placeG; rw [hx]
        obtain ⟨ad2, rfl, hr2⟩ := hS2.at_ (by omega)
        have hxo := ht x (List.mem_of_getElem? hx)
        have hff := SR.fin_f hf (show k ≤ 3000000 by omega)
        have hpz : Sz (2 * k + 1) (x.d * s.f.wid) := (hxo.2.mul (SR.szw hff)).mono (by omega)
        obtain ⟨xo1, xo2, xo3⟩ := hxo.1
        obtain ⟨wo1, wo2, wo3⟩ := (SR.szw hff).ok (by omega)
        have hmul := fun w1 => yTimes_calls x (nR s.f.wid) w1 (by omega) (by omega) (by omega) (by omega) (by omega) (by omega)
        rw [nR_d] at hmul
        have hadd := fun w1 => yPlus_calls s.f.lo (nR (x.d * s.f.wid)) w1 hff.1.ok (hpz.ok (by omega))
        rw [nR_d, show s.f.lo.d + x.d * s.f.wid = s.f.at_ x.d from rfl] at hadd
        refine wc_seq (sr (mI (mL (lenC ?_))))
        refine lssC (wl_end (cT (wc_skip (k_then (wc_seq (wc_block (sr (mL (mI ?_)))))))))
        refine s_indexAddr UIs.out TIs.size rfl rfl (by omega) (by omega) (by decide) ?_
        refine s_load (vs := [_, _, _, _, _, _]) TIs.out rfl ((hr.ext hh.below).recAt SR.len hs) rfl (by decide) ?_
        refine s_callf (rsForm_calls s k _ hf (by omega)) FnIs.out rfl (by decide) ?_
        rintro e_ w19 ⟨rfl, hb_⟩
        refine ⟨_, rfl, ?_⟩
        replace hh := hh.ext hb_
        refine alC hh ?_
        intro b7 w7 hh
        refine stC hh 0 [_,_,_,_,_,_] ?_
        intro ws hh
        replace hh : Hp _ (.blk _ _ [_, _, _, _, _, _] _ :: _) _ := hh
        refine wl_end (sr (faC ?_))
        refine lgC hh 0 [_,_,_] ?_
        refine alC hh ?_
        intro b8 w8 hh
        refine stC hh 0 [_,_,_] ?_
        intro ws hh
        replace hh : Hp _ (.blk _ _ [_, _, _] _ :: _) _ := hh
        refine wl_end (wc_seq (sr (mI (mL (lenC ?_)))))
        refine lssC (wl_end (cT ?_))
        refine wc_drawn 8 [[(8, none)], [(1, none)], [(6, none)], [(27, some 1), (28, some 2)], [(29, some 3)], [(7, none)], [(31, some 5)], [(30, some 4), (32, some 6)]] [(7, 33), (6, 32), (5, 31), (4, 30), (3, 29), (2, 28), (1, 27), (0, 26)] hh mixed (by kernel_rfl) ?_
        refine dlg 0 [_,_,_] ?_
        refine dmL ?_
        refine dmI ?_
        refine dis (i) ?_
        refine dLF [_,_,_] (fun _ hj => (hr2.ext hj.hp.below).recAt NR.len hx) ?_
        refine dlg 1 [_,_,_,_,_,_] ?_
        refine dC (fun _ hj => rsWidth_calls s.f k _ hff (by omega)) ?_
        refine dC (fun _ hj => hmul _) ?_
        refine dx_nil ?_
        intro f W hJ hV
        have hb_8 := hJ.bl
        obtain ⟨v33, v32, v31, v30, v29, v28, v27, v26, _⟩ := hV
        replace hh := hJ.hp
        refine wl_cast (updL_K (eql_cons v33 (eql_cons v32 (eql_cons v31 (eql_cons v30 (eql_cons v29 (eql_cons v28 (eql_cons v27 (eql_cons v26 eql_nil))))))))) ?_
        dsimp only [updK]
        clear hJ
        refine s_callf (hadd _) FnIs.out rfl (by decide) ?_
        rintro e_ w34 ⟨rfl, hb_⟩
        refine ⟨_, rfl, ?_⟩
        replace hh := hh.ext hb_
        refine stC hh 0 [_,_,_] ?_
        intro ws hh
        replace hh : Hp _ (.blk _ _ [_, _, _] _ :: _) _ := hh
        refine wl_end (wc_region (mL ?_))
        refine lgC hh 0 [_,_,_] ?_
        refine wl_buildSlice hh (cs := [_, _, _]) UIs.out TIs.out (evp_cons (ev_agg rfl) evp_nil) rfl rfl (by decide) (by decide) (by decide) rfl (by decide) ?_
        intro b37 w37 hh
        refine wl_append hh (i := 3) rfl rfl rfl (hh.sl_row (i := 0) rfl) UIs.out TIs.out rfl (by decide) (by first | rfl | exact oneCells_u8n _ | exact oneCells_u64s _ | exact oneCells_i64s _ | exact recs_oneCells NR.one _) (by omega) (by omega) (by decide) ?_
        intro A38 c38 w38 hh
        simp only [List.set_cons_zero, List.set_cons_succ] at hh
        replace hh := hh.sub (List.sublist_cons_self _ _)
        refine aL (wl_nil (b_norm (k_then (wc_region (mI ?_)))))
        refine addC (aI (wl_nil (k_then ?_)))
        replace hh := hh.sub (List.Sublist.cons _ (List.Sublist.cons _ (List.Sublist.cons_cons _ List.Sublist.slnil)))
        refine ⟨⟨i + 1, c38, A38, by omega, rfl, rfl, ?_⟩, by show n - (i + 1) < n - i; omega, ?_⟩
        · rw [take_snoc hs, List.mapIdx_concat, List.length_take, Nat.min_eq_left (by omega), recs_append, hG]
          exact hh
        · (repeat (first | exact agree_mask _ _ _ | refine agree_upd rfl ?_ | refine agree_mask2 rfl ?_))
    · obtain rfl : i = n := by omega
      rw [List.take_of_length_le (by omega)] at hh
      refine wc_seq (sr (mI (mL (lenC ?_))))
      refine lssC (wl_end (cF ?_))
      refine wc_exit ?_
      refine k_exit (k_exit (b_here (k_then (sr (mL (aL (wl_end (wc_ret ?_))))))))
      refine ret1 (by first | exact .inr rfl | exact .inl rfl) rfl (v_sl rfl) ?_
      exact ⟨_, _, rfl, hh.at_ (i := 0) rfl, hh.below⟩
end Go.Proofs.YthmmofllajkejaaGreatDoor
