/- The walks through ogeeref11: boxes by definition. -/
import Derived.Test.YthmmofllajkejaaGreatDoorShD
import Derived.Test.YthmmofllajkejaaGreatDoorBoxB
import Derived.Test.YthmmofllajkejaaGreatDoorRSpan
namespace Go.Proofs.YthmmofllajkejaaGreatDoor
open Go.RowKit
-- umode
-- skipu
theorem rbCheck_calls (L : Option Addr) (n c : Nat) (b : List SR) (k : Nat) (w : World) (hS : Sl w L n 6 (recs SR.cells b)) (hb : ∀ s ∈ b, s.fin k) (hn : n ≤ 1000000) (hk : k ≤ 3000000) :
    Calls Tryz.prog 30 #[.slice L n c] w fun r w' => r = .returned (.int .i64 (chkB b)) ∧ Below w.heap.size w w' := by
  have hh := Hp.start w
  have hln := hS.recLen SR.len (by decide)
  by_cases h0 : n = 0
  · refine calls_vc (N := 25) (l := [.slice L n c]) Tryz.func30 rfl rfl (by simp) ?_
    refine sr (aI (wl_end (wc_seq (sr (mL (lenC ?_))))))
    refine eqlC (wl_end (cT (sr (aI (wl_end (wc_ret (k_ret ?_)))))))
    refine ret1 (by first | exact .inr rfl | exact .inl rfl) rfl (v_int rfl) ?_
    obtain rfl : b = [] := List.eq_nil_of_length_eq_zero (by omega)
    exact ⟨rfl, hh.below⟩
  · refine calls_vc (N := 25) (l := [.slice L n c]) Tryz.func30 rfl rfl (by simp) ?_
    refine sr (aI (wl_end (wc_seq (sr (mL (lenC ?_))))))
    refine eqlC (wl_end (cF (wc_skip (k_then (wc_seq (sr (aI (wl_end (wc_block ?_)))))))))
    refine wc_loop1 [2, 3, 7, 8, 9, 10, 11, 12, 13, 14, 15, 16, 17, 18, 19, 20, 21, 22, 23, 24] 3
      (fun v w' => ∃ i : Nat, i ≤ n ∧ v = .int .i64 i ∧ (b.take i).any (fun s => !decide (s.lo.d < s.hi.d)) = false ∧ Hp w [] w')
      (fun v _ => n - (intOf v).toNat) ?_ ?_
    · exact ⟨0, Nat.zero_le _, rfl, rfl, hh⟩
    · clear hh
      rintro ρ' v w' ⟨i, hi, rfl, hall, hh⟩
      by_cases hlt : i < n
      · obtain ⟨s, hs⟩ := get_of_lt (l := b) (k := i) (by omega)
        have ms := List.mem_of_getElem? hs
        obtain ⟨ad, rfl, hr⟩ := hS.at_ (by omega)
        have hc := fun w1 => yCmpF s.lo s.hi k (hb s ms).1 (hb s ms).2 hk w1
        have e := cmp_geq s.lo.d s.hi.d
        generalize cmpD s.lo.d s.hi.d = cc at *
        by_cases g : 0 ≤ cc
        · refine wc_seq (sr (mI (mL (lenC ?_))))
          refine lssC (wl_end (cT (wc_skip (k_then (wc_seq (wc_block (wc_seq ?_)))))))
          refine wc_drawn 10 [[(0, none)], [(3, none)], [(13, some 0), (14, some 1)], [(15, some 2)], [(16, some 3)], [(0, none)], [(3, none)], [(18, some 5), (19, some 6)], [(20, some 7)], [(21, some 8)]] [(9, 22), (8, 21), (7, 20), (6, 19), (5, 18), (4, 17), (3, 16), (2, 15), (1, 14), (0, 13)] hh mixed (by kernel_rfl) ?_
          refine dmL ?_
          refine dmI ?_
          refine dis (i) ?_
          refine dfA ?_
          refine dLF [_,_,_] (fun _ hj => (((hr.ext hj.hp.below).recAt SR.len hs).drop 0).take 3) ?_
          refine dmL ?_
          refine dmI ?_
          refine dis (i) ?_
          refine dfA ?_
          refine dLF [_,_,_] (fun _ hj => (((hr.ext hj.hp.below).recAt SR.len hs).drop 3).take 3) ?_
          refine dx_nil ?_
          intro f W hJ hV
          have hb_6 := hJ.bl
          obtain ⟨v22, v21, v20, v19, v18, v17, v16, v15, v14, v13, _⟩ := hV
          replace hh := hJ.hp
          refine wl_cast (updL_K (eql_cons v22 (eql_cons v21 (eql_cons v20 (eql_cons v19 (eql_cons v18 (eql_cons v17 (eql_cons v16 (eql_cons v15 (eql_cons v14 (eql_cons v13 eql_nil))))))))))) ?_
          dsimp only [updK]
          clear hJ
          refine s_callf (hc _) FnIs.out rfl (by decide) ?_
          rintro e_ w23 ⟨rfl, hb_⟩
          refine ⟨_, rfl, ?_⟩
          replace hh := hh.ext hb_
          refine geqC (wl_end (cT (sr (aI (wl_end (wc_ret (b_ret (k_ret (k_ret (b_ret (k_ret ?_)))))))))))
          refine ret1 (by first | exact .inr rfl | exact .inl rfl) rfl (v_int rfl) ?_
          have : b.any (fun s => !decide (s.lo.d < s.hi.d)) = true := List.any_eq_true.2 ⟨s, ms, by rw [decide_eq_false (e.1 g)]; rfl⟩
          exact ⟨by rw [chkB, if_pos this], hh.below⟩
        · refine wc_seq (sr (mI (mL (lenC ?_))))
          refine lssC (wl_end (cT (wc_skip (k_then (wc_seq (wc_block (wc_seq ?_)))))))
          refine wc_drawn 10 [[(0, none)], [(3, none)], [(13, some 0), (14, some 1)], [(15, some 2)], [(16, some 3)], [(0, none)], [(3, none)], [(18, some 5), (19, some 6)], [(20, some 7)], [(21, some 8)]] [(9, 22), (8, 21), (7, 20), (6, 19), (5, 18), (4, 17), (3, 16), (2, 15), (1, 14), (0, 13)] hh mixed (by kernel_rfl) ?_
          refine dmL ?_
          refine dmI ?_
          refine dis (i) ?_
          refine dfA ?_
          refine dLF [_,_,_] (fun _ hj => (((hr.ext hj.hp.below).recAt SR.len hs).drop 0).take 3) ?_
          refine dmL ?_
          refine dmI ?_
          refine dis (i) ?_
          refine dfA ?_
          refine dLF [_,_,_] (fun _ hj => (((hr.ext hj.hp.below).recAt SR.len hs).drop 3).take 3) ?_
          refine dx_nil ?_
          intro f W hJ hV
          have hb_6 := hJ.bl
          obtain ⟨v22, v21, v20, v19, v18, v17, v16, v15, v14, v13, _⟩ := hV
          replace hh := hJ.hp
          refine wl_cast (updL_K (eql_cons v22 (eql_cons v21 (eql_cons v20 (eql_cons v19 (eql_cons v18 (eql_cons v17 (eql_cons v16 (eql_cons v15 (eql_cons v14 (eql_cons v13 eql_nil))))))))))) ?_
          dsimp only [updK]
          clear hJ
          refine s_callf (hc _) FnIs.out rfl (by decide) ?_
          rintro e_ w23 ⟨rfl, hb_⟩
          refine ⟨_, rfl, ?_⟩
          replace hh := hh.ext hb_
          refine geqC (wl_end (cF (wc_skip (b_norm (k_then (wc_region (mI ?_)))))))
          refine addC (aI (wl_nil (k_then ?_)))
          refine ⟨⟨i + 1, by omega, rfl, ?_, hh⟩, by show n - (i + 1) < n - i; omega, ?_⟩
          · rw [take_snoc hs, List.any_append, hall, Bool.false_or, List.any_cons, List.any_nil, Bool.or_false, decide_eq_true (by have : ¬ ¬ s.lo.d < s.hi.d := fun h => g (e.2 h); exact Classical.not_not.1 this)]
            rfl
          · (repeat (first | exact agree_mask _ _ _ | refine agree_upd rfl ?_ | refine agree_mask2 rfl ?_))
      · rw [List.take_of_length_le (by omega)] at hall
        refine wc_seq (sr (mI (mL (lenC ?_))))
        refine lssC (wl_end (cF ?_))
        refine wc_exit ?_
        refine k_exit (k_exit (b_here (k_then (sr (aI (wl_end (wc_ret ?_)))))))
        refine ret1 (by first | exact .inr rfl | exact .inl rfl) rfl (v_int rfl) ?_
        exact ⟨by rw [chkB, hall, if_neg (by simp), if_neg (by omega)], hh.below⟩
theorem rbForm_calls (L : Option Addr) (n c : Nat) (b : List SR) (k : Nat) (w : World) (hS : Sl w L n 6 (recs SR.cells b)) (hb : ∀ s ∈ b, s.fin k) (hn : n ≤ 1000000) (hk : k ≤ 3000000) :
    Calls Tryz.prog 32 #[.slice L n c] w fun r w' => ∃ A c', r = .returned (.slice A n c') ∧ w'.ownsRow w.heap.size 80 6 (.slice A n c') n (recs SR.cells (b.map SR.f)) ∧ Below w.heap.size w w' := by
  have hh := Hp.start w
  have hln := hS.recLen SR.len (by decide)
  refine calls_vc (N := 20) (l := [.slice L n c]) Tryz.func32 rfl rfl (by simp) ?_
  refine sr (aL (wl_end (sr (aL (wl_end (wc_seq (sr (aI (wl_end (wc_block ?_))))))))))
  replace hh := hh.nil_row 80 6
  refine wc_loop2 [3, 4, 5, 6, 7, 8, 9, 10, 11, 12, 13, 14, 15, 16, 17, 18] 3 4
    (fun v3 v w' => ∃ (i c3 : Nat) (A : Option Addr), i ≤ n ∧ v = .int .i64 i ∧ v3 = .slice A i c3 ∧ Hp w [.row A i c3 80 6 (recs SR.cells ((b.take i).map SR.f))] w')
    (fun _ v _ => n - (intOf v).toNat) ?_ ?_
  · exact ⟨0, 0, none, Nat.zero_le _, rfl, rfl, hh⟩
  · clear hh
    rintro ρ' v3 v w' ⟨i, c3, A, hi, rfl, rfl, hh⟩
    by_cases hlt : i < n
    · obtain ⟨s, hs⟩ := get_of_lt (l := b) (k := i) (by omega)
      obtain ⟨ad, rfl, hr⟩ := hS.at_ (by omega)
      refine wc_seq (sr (mI (mL (lenC ?_))))
      refine lssC (wl_end (cT (wc_skip (k_then (wc_seq (wc_block (wc_region (mL (mL (mI ?_))))))))))
      refine s_indexAddr UIs.out TIs.size rfl rfl (by omega) (by omega) (by decide) ?_
      refine s_load (vs := [_, _, _, _, _, _]) TIs.out rfl ((hr.ext hh.below).recAt SR.len hs) rfl (by decide) ?_
      refine s_callf (rsForm_calls s k _ (hb s (List.mem_of_getElem? hs)) hk) FnIs.out rfl (by decide) ?_
      rintro e_ w16 ⟨rfl, hb_⟩
      refine ⟨_, rfl, ?_⟩
      replace hh := hh.ext hb_
      refine wl_buildSlice hh (cs := [_, _, _, _, _, _]) UIs.out TIs.out (evp_cons (ev_agg rfl) evp_nil) rfl rfl (by decide) (by decide) (by decide) rfl (by decide) ?_
      intro b17 w17 hh
      refine wl_append hh (i := 1) rfl rfl rfl (hh.sl_row (i := 0) rfl) UIs.out TIs.out rfl (by decide) (by first | rfl | exact oneCells_u8n _ | exact oneCells_u64s _ | exact oneCells_i64s _ | exact recs_oneCells NR.one _) (by omega) (by omega) (by decide) ?_
      intro A18 c18 w18 hh
      simp only [List.set_cons_zero, List.set_cons_succ] at hh
      replace hh := hh.sub (List.sublist_cons_self _ _)
      refine aL (wl_nil (b_norm (k_then (wc_region (mI ?_)))))
      refine addC (aI (wl_nil (k_then ?_)))
      replace hh := hh.sub (List.Sublist.cons_cons _ List.Sublist.slnil)
      refine ⟨⟨i + 1, c18, A18, by omega, rfl, rfl, ?_⟩, by show n - (i + 1) < n - i; omega, ?_⟩
      · rw [take_snoc hs, List.map_append, recs_append]
        exact hh
      · (repeat (first | exact agree_mask _ _ _ | refine agree_upd rfl ?_ | refine agree_mask2 rfl ?_))
    · obtain rfl : i = n := by omega
      rw [List.take_of_length_le (by omega)] at hh
      refine wc_seq (sr (mI (mL (lenC ?_))))
      refine lssC (wl_end (cF ?_))
      refine wc_exit ?_
      refine k_exit (k_exit (b_here (k_then (sr (mL (aL (wl_end (wc_ret ?_))))))))
      refine ret1 (by first | exact .inr rfl | exact .inl rfl) rfl (v_sl rfl) ?_
      exact ⟨_, _, rfl, hh.at_ (i := 0) rfl, hh.below⟩
theorem rbMid_calls (L : Option Addr) (n c : Nat) (b : List SR) (k : Nat) (w : World) (hS : Sl w L n 6 (recs SR.cells b)) (hb : ∀ s ∈ b, s.fin k) (hn : n ≤ 1000000) (hk : k ≤ 3000000) :
    Calls Tryz.prog 43 #[.slice L n c] w fun r w' => ∃ A c', r = .returned (.slice A n c') ∧ w'.ownsRow w.heap.size 25 3 (.slice A n c') n (recs NR.cells (b.map fun s => nR s.mid)) ∧ Below w.heap.size w w' := by
  have hh := Hp.start w
  have hln := hS.recLen SR.len (by decide)
  refine calls_vc (N := 20) (l := [.slice L n c]) Tryz.func43 rfl rfl (by simp) ?_
  refine sr (aL (wl_end (sr (aL (wl_end (wc_seq (sr (aI (wl_end (wc_block ?_))))))))))
  replace hh := hh.nil_row 25 3
  refine wc_loop2 [3, 4, 5, 6, 7, 8, 9, 10, 11, 12, 13, 14, 15, 16, 17, 18] 3 4
    (fun v3 v w' => ∃ (i c3 : Nat) (A : Option Addr), i ≤ n ∧ v = .int .i64 i ∧ v3 = .slice A i c3 ∧ Hp w [.row A i c3 25 3 (recs NR.cells ((b.take i).map fun s => nR s.mid))] w')
    (fun _ v _ => n - (intOf v).toNat) ?_ ?_
  · exact ⟨0, 0, none, Nat.zero_le _, rfl, rfl, hh⟩
  · clear hh
    rintro ρ' v3 v w' ⟨i, c3, A, hi, rfl, rfl, hh⟩
    by_cases hlt : i < n
    · obtain ⟨s, hs⟩ := get_of_lt (l := b) (k := i) (by omega)
      obtain ⟨ad, rfl, hr⟩ := hS.at_ (by omega)
      refine wc_seq (sr (mI (mL (lenC ?_))))
      refine lssC (wl_end (cT (wc_skip (k_then (wc_seq (wc_block (wc_region (mL (mL (mI ?_))))))))))
      refine s_indexAddr UIs.out TIs.size rfl rfl (by omega) (by omega) (by decide) ?_
      refine s_load (vs := [_, _, _, _, _, _]) TIs.out rfl ((hr.ext hh.below).recAt SR.len hs) rfl (by decide) ?_
      refine s_callf (rsMid_calls s k _ (hb s (List.mem_of_getElem? hs)) hk) FnIs.out rfl (by decide) ?_
      rintro e_ w16 ⟨rfl, hb_⟩
      refine ⟨_, rfl, ?_⟩
      replace hh := hh.ext hb_
      refine wl_buildSlice hh (cs := [_, _, _]) UIs.out TIs.out (evp_cons (ev_agg rfl) evp_nil) rfl rfl (by decide) (by decide) (by decide) rfl (by decide) ?_
      intro b17 w17 hh
      refine wl_append hh (i := 1) rfl rfl rfl (hh.sl_row (i := 0) rfl) UIs.out TIs.out rfl (by decide) (by first | rfl | exact oneCells_u8n _ | exact oneCells_u64s _ | exact oneCells_i64s _ | exact recs_oneCells NR.one _) (by omega) (by omega) (by decide) ?_
      intro A18 c18 w18 hh
      simp only [List.set_cons_zero, List.set_cons_succ] at hh
      replace hh := hh.sub (List.sublist_cons_self _ _)
      refine aL (wl_nil (b_norm (k_then (wc_region (mI ?_)))))
      refine addC (aI (wl_nil (k_then ?_)))
      replace hh := hh.sub (List.Sublist.cons_cons _ List.Sublist.slnil)
      refine ⟨⟨i + 1, c18, A18, by omega, rfl, rfl, ?_⟩, by show n - (i + 1) < n - i; omega, ?_⟩
      · rw [take_snoc hs, List.map_append, recs_append]
        exact hh
      · (repeat (first | exact agree_mask _ _ _ | refine agree_upd rfl ?_ | refine agree_mask2 rfl ?_))
    · obtain rfl : i = n := by omega
      rw [List.take_of_length_le (by omega)] at hh
      refine wc_seq (sr (mI (mL (lenC ?_))))
      refine lssC (wl_end (cF ?_))
      refine wc_exit ?_
      refine k_exit (k_exit (b_here (k_then (sr (mL (aL (wl_end (wc_ret ?_))))))))
      refine ret1 (by first | exact .inr rfl | exact .inl rfl) rfl (v_sl rfl) ?_
      exact ⟨_, _, rfl, hh.at_ (i := 0) rfl, hh.below⟩
theorem rbHas_calls (L : Option Addr) (n c : Nat) (b : List SR) (M : Option Addr) (m c2 : Nat) (p : List NR) (k : Nat) (w : World) (hS : Sl w L n 6 (recs SR.cells b)) (hS2 : Sl w M m 3 (recs NR.cells p)) (hb : ∀ s ∈ b, s.fin k) (hp : ∀ a ∈ p, Fin_ k a) (hn : n ≤ 1000000) (hm : m ≤ 1000000) (hk : k ≤ 3000000) :
    Calls Tryz.prog 34 #[.slice L n c, .slice M m c2] w fun r w' => r = .returned (.bool (hasB b p)) ∧ Below w.heap.size w w' := by
  have hh := Hp.start w
  have hln := hS.recLen SR.len (by decide)
  have hlm := hS2.recLen NR.len (by decide)
  unfold hasB
  by_cases hnm : n = m
  · subst hnm
    rw [decide_eq_true (by omega), Bool.true_and]
    refine calls_vc (N := 27) (l := [.slice L n c, .slice M n c2]) Tryz.func34 rfl rfl (by simp) ?_
    refine sr (aB (wl_end (wc_seq (sr (mL (lenC (mL (lenC ?_))))))))
    refine neqC (wl_end (cF (wc_skip (k_then (wc_seq (sr (aI (wl_end (wc_block ?_)))))))))
    refine wc_loop1 [4, 5, 11, 12, 13, 14, 15, 16, 17, 18, 19, 20, 21, 22, 23, 24, 25, 26] 5
      (fun v w' => ∃ i : Nat, i ≤ n ∧ v = .int .i64 i ∧ ((b.take i).zip (p.take i)).all (fun x => x.1.has x.2.d) = true ∧ Hp w [] w')
      (fun v _ => n - (intOf v).toNat) ?_ ?_
    · exact ⟨0, Nat.zero_le _, rfl, rfl, hh⟩
    · clear hh
      rintro ρ' v w' ⟨i, hi, rfl, hall, hh⟩
      by_cases hlt : i < n
      · obtain ⟨s, hs⟩ := get_of_lt (l := b) (k := i) (by omega)
        obtain ⟨a, ha⟩ := get_of_lt (l := p) (k := i) (by omega)
        obtain ⟨ad, rfl, hr⟩ := hS.at_ (by omega)
        obtain ⟨ad2, rfl, hr2⟩ := hS2.at_ (by omega)
        have hc := fun w1 => rsHas_calls s a k w1 (hb s (List.mem_of_getElem? hs)) (hp a (List.mem_of_getElem? ha)) hk
        have hz : (b.take (i + 1)).zip (p.take (i + 1)) = (b.take i).zip (p.take i) ++ [(s, a)] := by
          rw [take_snoc hs, take_snoc ha, List.zip_append (by simp; omega)]
          rfl
        have hzm : (s, a) ∈ b.zip p := List.mem_of_getElem? (i := i) (by rw [List.getElem?_zip_eq_some]; exact ⟨hs, ha⟩)
        cases g : s.has a.d with
        | true =>
          rw [g] at hc
          refine wc_seq (sr (mI (mL (lenC ?_))))
          refine lssC (wl_end (cT (wc_skip (k_then (wc_seq (wc_block (wc_seq ?_)))))))
          refine wc_drawn 8 [[(0, none)], [(5, none)], [(17, some 0), (18, some 1)], [(19, some 2)], [(1, none)], [(5, none)], [(21, some 4), (22, some 5)], [(23, some 6)]] [(7, 24), (6, 23), (5, 22), (4, 21), (3, 20), (2, 19), (1, 18), (0, 17)] hh mixed (by kernel_rfl) ?_
          refine dmL ?_
          refine dmI ?_
          refine dis (i) ?_
          refine dLF [_,_,_,_,_,_] (fun _ hj => (hr.ext hj.hp.below).recAt SR.len hs) ?_
          refine dmL ?_
          refine dmI ?_
          refine dis (i) ?_
          refine dLF [_,_,_] (fun _ hj => (hr2.ext hj.hp.below).recAt NR.len ha) ?_
          refine dx_nil ?_
          intro f W hJ hV
          have hb_6 := hJ.bl
          obtain ⟨v24, v23, v22, v21, v20, v19, v18, v17, _⟩ := hV
          replace hh := hJ.hp
          refine wl_cast (updL_K (eql_cons v24 (eql_cons v23 (eql_cons v22 (eql_cons v21 (eql_cons v20 (eql_cons v19 (eql_cons v18 (eql_cons v17 eql_nil))))))))) ?_
          dsimp only [updK]
          clear hJ
          refine s_callf (hc _) FnIs.out rfl (by decide) ?_
          rintro e_ w25 ⟨rfl, hb_⟩
          refine ⟨_, rfl, ?_⟩
          replace hh := hh.ext hb_
          refine notC ?_
          refine wl_end (cF (wc_skip (b_norm (k_then (wc_region (mI ?_))))))
          refine addC (aI (wl_nil (k_then ?_)))
          refine ⟨⟨i + 1, by omega, rfl, by rw [hz, List.all_append, hall]; simpa using g, hh⟩, by show n - (i + 1) < n - i; omega, ?_⟩
          (repeat (first | exact agree_mask _ _ _ | refine agree_upd rfl ?_ | refine agree_mask2 rfl ?_))
        | false =>
          rw [g] at hc
          refine wc_seq (sr (mI (mL (lenC ?_))))
          refine lssC (wl_end (cT (wc_skip (k_then (wc_seq (wc_block (wc_seq ?_)))))))
          refine wc_drawn 8 [[(0, none)], [(5, none)], [(17, some 0), (18, some 1)], [(19, some 2)], [(1, none)], [(5, none)], [(21, some 4), (22, some 5)], [(23, some 6)]] [(7, 24), (6, 23), (5, 22), (4, 21), (3, 20), (2, 19), (1, 18), (0, 17)] hh mixed (by kernel_rfl) ?_
          refine dmL ?_
          refine dmI ?_
          refine dis (i) ?_
          refine dLF [_,_,_,_,_,_] (fun _ hj => (hr.ext hj.hp.below).recAt SR.len hs) ?_
          refine dmL ?_
          refine dmI ?_
          refine dis (i) ?_
          refine dLF [_,_,_] (fun _ hj => (hr2.ext hj.hp.below).recAt NR.len ha) ?_
          refine dx_nil ?_
          intro f W hJ hV
          have hb_6 := hJ.bl
          obtain ⟨v24, v23, v22, v21, v20, v19, v18, v17, _⟩ := hV
          replace hh := hJ.hp
          refine wl_cast (updL_K (eql_cons v24 (eql_cons v23 (eql_cons v22 (eql_cons v21 (eql_cons v20 (eql_cons v19 (eql_cons v18 (eql_cons v17 eql_nil))))))))) ?_
          dsimp only [updK]
          clear hJ
          refine s_callf (hc _) FnIs.out rfl (by decide) ?_
          rintro e_ w25 ⟨rfl, hb_⟩
          refine ⟨_, rfl, ?_⟩
          replace hh := hh.ext hb_
          refine notC ?_
          refine wl_end (cT (sr (aB (wl_end (wc_ret (b_ret (k_ret (k_ret (b_ret (k_ret ?_))))))))))
          refine ret1 (by first | exact .inr rfl | exact .inl rfl) rfl (v_bool rfl) ?_
          have : (b.zip p).all (fun x => x.1.has x.2.d) = false := List.all_eq_false.2 ⟨(s, a), hzm, by simp only [g]; exact Bool.false_ne_true⟩
          exact ⟨by rw [this], hh.below⟩
      · rw [List.take_of_length_le (by omega), List.take_of_length_le (by omega)] at hall
        refine wc_seq (sr (mI (mL (lenC ?_))))
        refine lssC (wl_end (cF ?_))
        refine wc_exit ?_
        refine k_exit (k_exit (b_here (k_then (sr (aB (wl_end (wc_ret ?_)))))))
        refine ret1 (by first | exact .inr rfl | exact .inl rfl) rfl (v_bool rfl) ?_
        exact ⟨by rw [hall], hh.below⟩
  · rw [decide_eq_false (by omega), Bool.false_and]
    refine calls_vc (N := 27) (l := [.slice L n c, .slice M m c2]) Tryz.func34 rfl rfl (by simp) ?_
    refine sr (aB (wl_end (wc_seq (sr (mL (lenC (mL (lenC ?_))))))))
    refine neqC (wl_end (cT (sr (aB (wl_end (wc_ret (k_ret ?_)))))))
    refine ret1 (by first | exact .inr rfl | exact .inl rfl) rfl (v_bool rfl) ?_
    exact ⟨rfl, hh.below⟩
theorem rbWithin_calls (L : Option Addr) (n c : Nat) (b : List SR) (M : Option Addr) (m c2 : Nat) (p : List SR) (k : Nat) (w : World) (hS : Sl w L n 6 (recs SR.cells b)) (hS2 : Sl w M m 6 (recs SR.cells p)) (hb : ∀ s ∈ b, s.fin k) (hp : ∀ a ∈ p, a.fin k) (hn : n ≤ 1000000) (hm : m ≤ 1000000) (hk : k ≤ 3000000) :
    Calls Tryz.prog 36 #[.slice L n c, .slice M m c2] w fun r w' => r = .returned (.bool (withinB b p)) ∧ Below w.heap.size w w' := by
  have hh := Hp.start w
  have hln := hS.recLen SR.len (by decide)
  have hlm := hS2.recLen SR.len (by decide)
  unfold withinB
  by_cases hnm : n = m
  · subst hnm
    rw [decide_eq_true (by omega), Bool.true_and]
    refine calls_vc (N := 41) (l := [.slice L n c, .slice M n c2]) Tryz.func36 rfl rfl (by simp) ?_
    refine sr (aB (wl_end (wc_seq (sr (mL (lenC (mL (lenC ?_))))))))
    refine neqC (wl_end (cF (wc_skip (k_then (wc_seq (sr (aI (wl_end (wc_block ?_)))))))))
    refine wc_loop1 [4, 5, 11, 12, 13, 14, 15, 16, 17, 18, 19, 20, 21, 22, 23, 24, 25, 26, 27, 28, 29, 30, 31, 32, 33, 34, 35, 36, 37, 38, 39, 40] 5
      (fun v w' => ∃ i : Nat, i ≤ n ∧ v = .int .i64 i ∧ ((b.take i).zip (p.take i)).all (fun x => x.2.has x.1.lo.d && x.2.has x.1.hi.d) = true ∧ Hp w [] w')
      (fun v _ => n - (intOf v).toNat) ?_ ?_
    · exact ⟨0, Nat.zero_le _, rfl, rfl, hh⟩
    · clear hh
      rintro ρ' v w' ⟨i, hi, rfl, hall, hh⟩
      by_cases hlt : i < n
      · obtain ⟨s, hs⟩ := get_of_lt (l := b) (k := i) (by omega)
        obtain ⟨a, ha⟩ := get_of_lt (l := p) (k := i) (by omega)
        obtain ⟨ad, rfl, hr⟩ := hS.at_ (by omega)
        obtain ⟨ad2, rfl, hr2⟩ := hS2.at_ (by omega)
        have hc1 := fun w1 => rsHas_calls a s.lo k w1 (hp a (List.mem_of_getElem? ha)) (hb s (List.mem_of_getElem? hs)).1 hk
        have hc2 := fun w1 => rsHas_calls a s.hi k w1 (hp a (List.mem_of_getElem? ha)) (hb s (List.mem_of_getElem? hs)).2 hk
        have hz : (b.take (i + 1)).zip (p.take (i + 1)) = (b.take i).zip (p.take i) ++ [(s, a)] := by
          rw [take_snoc hs, take_snoc ha, List.zip_append (by simp; omega)]
          rfl
        have hzm : (s, a) ∈ b.zip p := List.mem_of_getElem? (i := i) (by rw [List.getElem?_zip_eq_some]; exact ⟨hs, ha⟩)
        have hbad : (a.has s.lo.d && a.has s.hi.d) = false → (b.zip p).all (fun x => x.2.has x.1.lo.d && x.2.has x.1.hi.d) = false := fun g => List.all_eq_false.2 ⟨(s, a), hzm, by simp only [g]; exact Bool.false_ne_true⟩
        cases g1 : a.has s.lo.d with
        | false =>
          rw [g1] at hc1
          refine wc_seq (sr (mI (mL (lenC ?_))))
          refine lssC (wl_end (cT (wc_skip (k_then (wc_seq (wc_block (wc_seq ?_)))))))
          refine wc_drawn 21 [[(1, none)], [(5, none)], [(17, some 0), (18, some 1)], [(19, some 2)], [(0, none)], [(5, none)], [(21, some 4), (22, some 5)], [(23, some 6)], [(24, some 7)], [(20, some 3), (25, some 8)], [(26, some 9)], [(27, some 10)], [(1, none), (28, some 11)], [(5, none), (28, some 11)], [(29, some 12), (30, some 13), (28, some 11)], [(31, some 14), (28, some 11)], [(0, none), (28, some 11)], [(5, none), (28, some 11)], [(33, some 16), (34, some 17), (28, some 11)], [(35, some 18), (28, some 11)], [(36, some 19), (28, some 11)]] [(20, 37), (19, 36), (18, 35), (17, 34), (16, 33), (15, 32), (14, 31), (13, 30), (12, 29), (11, 28), (10, 27), (9, 26), (8, 25), (7, 24), (6, 23), (5, 22), (4, 21), (3, 20), (2, 19), (1, 18), (0, 17)] hh mixed (by kernel_rfl) ?_
          refine dmL ?_
          refine dmI ?_
          refine dis (i) ?_
          refine dLF [_,_,_,_,_,_] (fun _ hj => (hr2.ext hj.hp.below).recAt SR.len ha) ?_
          refine dmL ?_
          refine dmI ?_
          refine dis (i) ?_
          refine dfA ?_
          refine dLF [_,_,_] (fun _ hj => (((hr.ext hj.hp.below).recAt SR.len hs).drop 0).take 3) ?_
          refine dC (fun _ hj => hc1 _) ?_
          refine dnot ?_
          refine dmB ?_
          first | refine dS ?_ | refine dU ?_ | refine dG (dmL ?_)
          first | refine dS ?_ | refine dU ?_ | refine dG (dmI ?_)
          first | refine dS ?_ | refine dU ?_ | refine dG (dis (i) ?_)
          first | refine dS ?_ | refine dU ?_ | refine dG (dLF [_,_,_,_,_,_] (fun _ hj => trivial) ?_)
          first | refine dS ?_ | refine dU ?_ | refine dG (dmL ?_)
          first | refine dS ?_ | refine dU ?_ | refine dG (dmI ?_)
          first | refine dS ?_ | refine dU ?_ | refine dG (dis (i) ?_)
          first | refine dS ?_ | refine dU ?_ | refine dG (dfA ?_)
          first | refine dS ?_ | refine dU ?_ | refine dG (dLF [_,_,_] (fun _ hj => trivial) ?_)
          refine dx_nil ?_
          intro f W hJ hV
          have hb_6 := hJ.bl
          obtain ⟨v37, v36, v35, v34, v33, v32, v31, v30, v29, v28, v27, v26, v25, v24, v23, v22, v21, v20, v19, v18, v17, _⟩ := hV
          replace hh := hJ.hp
          refine wl_cast (updL_K (eql_cons v37 (eql_cons v36 (eql_cons v35 (eql_cons v34 (eql_cons v33 (eql_cons v32 (eql_cons v31 (eql_cons v30 (eql_cons v29 (eql_cons v28 (eql_cons v27 (eql_cons v26 (eql_cons v25 (eql_cons v24 (eql_cons v23 (eql_cons v22 (eql_cons v21 (eql_cons v20 (eql_cons v19 (eql_cons v18 (eql_cons v17 eql_nil)))))))))))))))))))))) ?_
          dsimp only [updK]
          clear hJ
          refine wl_guard_skip (by decide) rfl rfl (by decide) ?_
          first | refine gS ?_ | (refine gT ?_; refine notC ?_) | refine gV ?_
          first | refine pkT ?_ | refine pkF ?_
          refine wl_end (cT (sr (aB (wl_end (wc_ret (b_ret (k_ret (k_ret (b_ret (k_ret ?_))))))))))
          refine ret1 (by first | exact .inr rfl | exact .inl rfl) rfl (v_bool rfl) ?_
          exact ⟨by rw [hbad (by rw [g1]; rfl)], hh.below⟩
        | true =>
          rw [g1] at hc1
          cases g2 : a.has s.hi.d with
          | false =>
            rw [g2] at hc2
            refine wc_seq (sr (mI (mL (lenC ?_))))
            refine lssC (wl_end (cT (wc_skip (k_then (wc_seq (wc_block (wc_seq ?_)))))))
            refine wc_drawn 21 [[(1, none)], [(5, none)], [(17, some 0), (18, some 1)], [(19, some 2)], [(0, none)], [(5, none)], [(21, some 4), (22, some 5)], [(23, some 6)], [(24, some 7)], [(20, some 3), (25, some 8)], [(26, some 9)], [(27, some 10)], [(1, none), (28, some 11)], [(5, none), (28, some 11)], [(29, some 12), (30, some 13), (28, some 11)], [(31, some 14), (28, some 11)], [(0, none), (28, some 11)], [(5, none), (28, some 11)], [(33, some 16), (34, some 17), (28, some 11)], [(35, some 18), (28, some 11)], [(36, some 19), (28, some 11)]] [(20, 37), (19, 36), (18, 35), (17, 34), (16, 33), (15, 32), (14, 31), (13, 30), (12, 29), (11, 28), (10, 27), (9, 26), (8, 25), (7, 24), (6, 23), (5, 22), (4, 21), (3, 20), (2, 19), (1, 18), (0, 17)] hh mixed (by kernel_rfl) ?_
            refine dmL ?_
            refine dmI ?_
            refine dis (i) ?_
            refine dLF [_,_,_,_,_,_] (fun _ hj => (hr2.ext hj.hp.below).recAt SR.len ha) ?_
            refine dmL ?_
            refine dmI ?_
            refine dis (i) ?_
            refine dfA ?_
            refine dLF [_,_,_] (fun _ hj => (((hr.ext hj.hp.below).recAt SR.len hs).drop 0).take 3) ?_
            refine dC (fun _ hj => hc1 _) ?_
            refine dnot ?_
            refine dmB ?_
            first | refine dS ?_ | refine dU ?_ | refine dG (dmL ?_)
            first | refine dS ?_ | refine dU ?_ | refine dG (dmI ?_)
            first | refine dS ?_ | refine dU ?_ | refine dG (dis (i) ?_)
            first | refine dS ?_ | refine dU ?_ | refine dG (dLF [_,_,_,_,_,_] (fun _ hj => (hr2.ext hj.hp.below).recAt SR.len ha) ?_)
            first | refine dS ?_ | refine dU ?_ | refine dG (dmL ?_)
            first | refine dS ?_ | refine dU ?_ | refine dG (dmI ?_)
            first | refine dS ?_ | refine dU ?_ | refine dG (dis (i) ?_)
            first | refine dS ?_ | refine dU ?_ | refine dG (dfA ?_)
            first | refine dS ?_ | refine dU ?_ | refine dG (dLF [_,_,_] (fun _ hj => (((hr.ext hj.hp.below).recAt SR.len hs).drop 3).take 3) ?_)
            refine dx_nil ?_
            intro f W hJ hV
            have hb_6 := hJ.bl
            obtain ⟨v37, v36, v35, v34, v33, v32, v31, v30, v29, v28, v27, v26, v25, v24, v23, v22, v21, v20, v19, v18, v17, _⟩ := hV
            replace hh := hJ.hp
            refine wl_cast (updL_K (eql_cons v37 (eql_cons v36 (eql_cons v35 (eql_cons v34 (eql_cons v33 (eql_cons v32 (eql_cons v31 (eql_cons v30 (eql_cons v29 (eql_cons v28 (eql_cons v27 (eql_cons v26 (eql_cons v25 (eql_cons v24 (eql_cons v23 (eql_cons v22 (eql_cons v21 (eql_cons v20 (eql_cons v19 (eql_cons v18 (eql_cons v17 eql_nil)))))))))))))))))))))) ?_
            dsimp only [updK]
            clear hJ
            refine wl_guard_take rfl rfl ?_
            refine s_callf (hc2 _) FnIs.out rfl (by decide) ?_
            rintro e_ w38 ⟨rfl, hb_⟩
            refine ⟨_, rfl, ?_⟩
            replace hh := hh.ext hb_
            first | refine gS ?_ | (refine gT ?_; refine notC ?_) | refine gV ?_
            first | refine pkT ?_ | refine pkF ?_
            refine wl_end (cT (sr (aB (wl_end (wc_ret (b_ret (k_ret (k_ret (b_ret (k_ret ?_))))))))))
            refine ret1 (by first | exact .inr rfl | exact .inl rfl) rfl (v_bool rfl) ?_
            exact ⟨by rw [hbad (by rw [g2, Bool.and_false])], hh.below⟩
          | true =>
            rw [g2] at hc2
            refine wc_seq (sr (mI (mL (lenC ?_))))
            refine lssC (wl_end (cT (wc_skip (k_then (wc_seq (wc_block (wc_seq ?_)))))))
            refine wc_drawn 21 [[(1, none)], [(5, none)], [(17, some 0), (18, some 1)], [(19, some 2)], [(0, none)], [(5, none)], [(21, some 4), (22, some 5)], [(23, some 6)], [(24, some 7)], [(20, some 3), (25, some 8)], [(26, some 9)], [(27, some 10)], [(1, none), (28, some 11)], [(5, none), (28, some 11)], [(29, some 12), (30, some 13), (28, some 11)], [(31, some 14), (28, some 11)], [(0, none), (28, some 11)], [(5, none), (28, some 11)], [(33, some 16), (34, some 17), (28, some 11)], [(35, some 18), (28, some 11)], [(36, some 19), (28, some 11)]] [(20, 37), (19, 36), (18, 35), (17, 34), (16, 33), (15, 32), (14, 31), (13, 30), (12, 29), (11, 28), (10, 27), (9, 26), (8, 25), (7, 24), (6, 23), (5, 22), (4, 21), (3, 20), (2, 19), (1, 18), (0, 17)] hh mixed (by kernel_rfl) ?_
            refine dmL ?_
            refine dmI ?_
            refine dis (i) ?_
            refine dLF [_,_,_,_,_,_] (fun _ hj => (hr2.ext hj.hp.below).recAt SR.len ha) ?_
            refine dmL ?_
            refine dmI ?_
            refine dis (i) ?_
            refine dfA ?_
            refine dLF [_,_,_] (fun _ hj => (((hr.ext hj.hp.below).recAt SR.len hs).drop 0).take 3) ?_
            refine dC (fun _ hj => hc1 _) ?_
            refine dnot ?_
            refine dmB ?_
            first | refine dS ?_ | refine dU ?_ | refine dG (dmL ?_)
            first | refine dS ?_ | refine dU ?_ | refine dG (dmI ?_)
            first | refine dS ?_ | refine dU ?_ | refine dG (dis (i) ?_)
            first | refine dS ?_ | refine dU ?_ | refine dG (dLF [_,_,_,_,_,_] (fun _ hj => (hr2.ext hj.hp.below).recAt SR.len ha) ?_)
            first | refine dS ?_ | refine dU ?_ | refine dG (dmL ?_)
            first | refine dS ?_ | refine dU ?_ | refine dG (dmI ?_)
            first | refine dS ?_ | refine dU ?_ | refine dG (dis (i) ?_)
            first | refine dS ?_ | refine dU ?_ | refine dG (dfA ?_)
            first | refine dS ?_ | refine dU ?_ | refine dG (dLF [_,_,_] (fun _ hj => (((hr.ext hj.hp.below).recAt SR.len hs).drop 3).take 3) ?_)
            refine dx_nil ?_
            intro f W hJ hV
            have hb_6 := hJ.bl
            obtain ⟨v37, v36, v35, v34, v33, v32, v31, v30, v29, v28, v27, v26, v25, v24, v23, v22, v21, v20, v19, v18, v17, _⟩ := hV
            replace hh := hJ.hp
            refine wl_cast (updL_K (eql_cons v37 (eql_cons v36 (eql_cons v35 (eql_cons v34 (eql_cons v33 (eql_cons v32 (eql_cons v31 (eql_cons v30 (eql_cons v29 (eql_cons v28 (eql_cons v27 (eql_cons v26 (eql_cons v25 (eql_cons v24 (eql_cons v23 (eql_cons v22 (eql_cons v21 (eql_cons v20 (eql_cons v19 (eql_cons v18 (eql_cons v17 eql_nil)))))))))))))))))))))) ?_
            dsimp only [updK]
            clear hJ
            refine wl_guard_take rfl rfl ?_
            refine s_callf (hc2 _) FnIs.out rfl (by decide) ?_
            rintro e_ w38 ⟨rfl, hb_⟩
            refine ⟨_, rfl, ?_⟩
            replace hh := hh.ext hb_
            first | refine gS ?_ | (refine gT ?_; refine notC ?_) | refine gV ?_
            first | refine pkT ?_ | refine pkF ?_
            refine wl_end (cF (wc_skip (b_norm (k_then (wc_region (mI ?_))))))
            refine addC (aI (wl_nil (k_then ?_)))
            refine ⟨⟨i + 1, by omega, rfl, by rw [hz, List.all_append, hall]; simp [g1, g2], hh⟩, by show n - (i + 1) < n - i; omega, ?_⟩
            (repeat (first | exact agree_mask _ _ _ | refine agree_upd rfl ?_ | refine agree_mask2 rfl ?_))
      · rw [List.take_of_length_le (by omega), List.take_of_length_le (by omega)] at hall
        refine wc_seq (sr (mI (mL (lenC ?_))))
        refine lssC (wl_end (cF ?_))
        refine wc_exit ?_
        refine k_exit (k_exit (b_here (k_then (sr (aB (wl_end (wc_ret ?_)))))))
        refine ret1 (by first | exact .inr rfl | exact .inl rfl) rfl (v_bool rfl) ?_
        exact ⟨by rw [hall], hh.below⟩
  · rw [decide_eq_false (by omega), Bool.false_and]
    refine calls_vc (N := 41) (l := [.slice L n c, .slice M m c2]) Tryz.func36 rfl rfl (by simp) ?_
    refine sr (aB (wl_end (wc_seq (sr (mL (lenC (mL (lenC ?_))))))))
    refine neqC (wl_end (cT (sr (aB (wl_end (wc_ret (k_ret ?_)))))))
    refine ret1 (by first | exact .inr rfl | exact .inl rfl) rfl (v_bool rfl) ?_
    exact ⟨rfl, hh.below⟩
end Go.Proofs.YthmmofllajkejaaGreatDoor
