/- The walks through package box: what is wrong with a box, its form, what lies in it, its widest axis, its volume. -/
import Derived.Test.YthmmofllajkejaaGreatDoorShD
import Derived.Test.YthmmofllajkejaaGreatDoorSpan
namespace Go.Proofs.YthmmofllajkejaaGreatDoor
open Go.RowKit
-- umode
-- skipu
def chkB (b : List SR) : Int := if b.any (fun s => !decide (s.lo.d < s.hi.d)) then 5 else if b.length = 0 then 1 else 0
theorem cmp_geq (x y : Dyadic) : (0 ≤ cmpD x y) ↔ ¬ x < y := by
  rcases d_tri x y with h | h | h
  · rw [cmpD_of_lt h]; exact ⟨fun h2 => by omega, fun h2 => absurd h h2⟩
  · rw [h, cmpD_self]; exact ⟨fun _ => by grind, fun _ => by omega⟩
  · rw [cmpD_of_gt h]; exact ⟨fun _ => by grind, fun _ => by omega⟩
theorem bCheck_calls (L : Option Addr) (n c : Nat) (b : List SR) (w : World) (hT : Tab w) (hS : Sl w L n 6 (recs SR.cells b)) (hb : ∀ s ∈ b, s.ok) (hn : n ≤ 1000000) :
    Calls Tryz.prog 29 #[.slice L n c] w fun r w' => r = .returned (.int .i64 (chkB b)) ∧ Below w.heap.size w w' := by
  have hh := Hp.start w
  have hln := hS.recLen SR.len (by decide)
  refine calls_vc (N := 21) (l := [.slice L n c]) Tryz.func29 rfl rfl (by simp) ?_
  refine sr (aI (wl_end (wc_seq (sr (mL (lenC (mI (wl_end (wc_block ?_)))))))))
  refine wc_loop1 [2, 4, 7, 8, 9, 10, 11, 12, 13, 14, 15, 16, 17] 7
    (fun v w' => ∃ i : Nat, i ≤ n ∧ v = .int .i64 i ∧ (b.take i).any (fun s => !decide (s.lo.d < s.hi.d)) = false ∧ Hp w [] w')
    (fun v _ => n - (intOf v).toNat) ?_ ?_
  · exact ⟨0, Nat.zero_le _, rfl, rfl, hh⟩
  · clear hh
    rintro ρ' v w' ⟨i, hi, rfl, hall, hh⟩
    by_cases hlt : i < n
    · obtain ⟨s, hs⟩ := get_of_lt (l := b) (k := i) (by omega)
      have ms := List.mem_of_getElem? hs
      obtain ⟨ad, rfl, hr⟩ := hS.at_ (by omega)
      have hc := fun w1 hT1 => dCmp_calls s.lo s.hi w1 hT1 (hb s ms).1 (hb s ms).2
      have e := cmp_geq s.lo.d s.hi.d
      generalize cmpD s.lo.d s.hi.d = cc at *
      by_cases g : 0 ≤ cc
      · refine sr ?_
        refine lssC (wl_end (wc_seq (cT (wc_skip (k_then (wc_seq (wc_block (sr ?_))))))))
        refine s_indexSl (k := i) UIs.out TIs.size rfl rfl (by omega) (by omega) (by decide) ?_
        refine s_load (vs := [_, _, _, _, _, _]) TIs.out rfl ((hr.ext hh.below).recAt SR.len hs) rfl (by decide) ?_
        refine alC hh ?_
        intro b4 w4 hh
        refine stC hh 0 [_,_,_,_,_,_] ?_
        intro ws hh
        replace hh : Hp _ (.blk _ _ [_, _, _, _, _, _] _ :: _) _ := hh
        refine wl_end (sr (faC ?_))
        refine lgC hh 0 [_,_,_] (faC ?_)
        refine lgC hh 0 [_,_,_] ?_
        refine s_callf (hc _ (hT.hp hh)) FnIs.out rfl (by decide) ?_
        rintro e_ w15 ⟨rfl, hb_⟩
        refine ⟨_, rfl, ?_⟩
        replace hh := hh.ext hb_
        refine geqC (wl_end (cT (sr (aI (wl_end (wc_ret (b_ret (k_ret (k_ret (b_ret (k_ret ?_)))))))))))
        refine ret1 (by first | exact .inr rfl | exact .inl rfl) rfl (v_int rfl) ?_
        have : b.any (fun s => !decide (s.lo.d < s.hi.d)) = true := List.any_eq_true.2 ⟨s, ms, by rw [decide_eq_false (e.1 g)]; rfl⟩
        exact ⟨by rw [chkB, if_pos this], hh.below⟩
      · refine sr ?_
        refine lssC (wl_end (wc_seq (cT (wc_skip (k_then (wc_seq (wc_block (sr ?_))))))))
        refine s_indexSl (k := i) UIs.out TIs.size rfl rfl (by omega) (by omega) (by decide) ?_
        refine s_load (vs := [_, _, _, _, _, _]) TIs.out rfl ((hr.ext hh.below).recAt SR.len hs) rfl (by decide) ?_
        refine alC hh ?_
        intro b4 w4 hh
        refine stC hh 0 [_,_,_,_,_,_] ?_
        intro ws hh
        replace hh : Hp _ (.blk _ _ [_, _, _, _, _, _] _ :: _) _ := hh
        refine wl_end (sr (faC ?_))
        refine lgC hh 0 [_,_,_] (faC ?_)
        refine lgC hh 0 [_,_,_] ?_
        refine s_callf (hc _ (hT.hp hh)) FnIs.out rfl (by decide) ?_
        rintro e_ w15 ⟨rfl, hb_⟩
        refine ⟨_, rfl, ?_⟩
        replace hh := hh.ext hb_
        refine geqC (wl_end (cF (wc_skip (b_norm (k_then (wc_region ?_))))))
        refine addC (mI (wl_nil (k_then ?_)))
        replace hh := hh.sub (List.Sublist.cons _ List.Sublist.slnil)
        refine ⟨⟨i + 1, by omega, rfl, ?_, hh⟩, by show n - (i + 1) < n - i; omega, ?_⟩
        · rw [take_snoc hs, List.any_append, hall, Bool.false_or, List.any_cons, List.any_nil, Bool.or_false, decide_eq_true (by have : ¬ ¬ s.lo.d < s.hi.d := fun h => g (e.2 h); exact Classical.not_not.1 this)]
          rfl
        · (repeat (first | exact agree_mask _ _ _ | refine agree_upd rfl ?_ | refine agree_mask2 rfl ?_))
    · rw [List.take_of_length_le (by omega)] at hall
      by_cases h0 : n = 0
      · refine sr ?_
        refine lssC (wl_end (wc_seq (cF ?_)))
        refine wc_exit ?_
        refine k_exit (k_exit (b_here (k_then (wc_seq (sr (mL (lenC ?_)))))))
        refine eqlC (wl_end (cT (sr (aI (wl_end (wc_ret (k_ret ?_)))))))
        refine ret1 (by first | exact .inr rfl | exact .inl rfl) rfl (v_int rfl) ?_
        exact ⟨by rw [chkB, hall, if_neg (by simp), if_pos (by omega)], hh.below⟩
      · refine sr ?_
        refine lssC (wl_end (wc_seq (cF ?_)))
        refine wc_exit ?_
        refine k_exit (k_exit (b_here (k_then (wc_seq (sr (mL (lenC ?_)))))))
        refine eqlC (wl_end (cF (wc_skip (k_then (sr (aI (wl_end (wc_ret ?_))))))))
        refine ret1 (by first | exact .inr rfl | exact .inl rfl) rfl (v_int rfl) ?_
        exact ⟨by rw [chkB, hall, if_neg (by simp), if_neg (by omega)], hh.below⟩
theorem bForm_calls (L : Option Addr) (n c : Nat) (b : List SR) (w : World) (hT : Tab w) (hS : Sl w L n 6 (recs SR.cells b)) (hb : ∀ s ∈ b, s.ok) (hn : n ≤ 1000000) :
    Calls Tryz.prog 28 #[.slice L n c] w fun r w' => ∃ A c', r = .returned (.slice A n c') ∧ w'.ownsRow w.heap.size 80 6 (.slice A n c') n (recs SR.cells (b.map SR.f)) ∧ Below w.heap.size w w' := by
  have hh := Hp.start w
  have hln := hS.recLen SR.len (by decide)
  refine calls_vc (N := 19) (l := [.slice L n c]) Tryz.func28 rfl rfl (by simp) ?_
  refine sr (aL (wl_end (sr (aL (wl_end (wc_seq (sr (mL (lenC (mI (wl_end ?_)))))))))))
  refine wc_block ?_
  replace hh := hh.nil_row 80 6
  refine wc_loop2 [3, 5, 8, 9, 10, 11, 12, 13, 14, 15, 16, 17] 3 8
    (fun v3 v w' => ∃ (i c3 : Nat) (A : Option Addr), i ≤ n ∧ v = .int .i64 i ∧ v3 = .slice A i c3 ∧ Hp w [.row A i c3 80 6 (recs SR.cells ((b.take i).map SR.f))] w')
    (fun _ v _ => n - (intOf v).toNat) ?_ ?_
  · exact ⟨0, 0, none, Nat.zero_le _, rfl, rfl, hh⟩
  · clear hh
    rintro ρ' v3 v w' ⟨i, c3, A, hi, rfl, rfl, hh⟩
    by_cases hlt : i < n
    · obtain ⟨s, hs⟩ := get_of_lt (l := b) (k := i) (by omega)
      have ms := List.mem_of_getElem? hs
      obtain ⟨ad, rfl, hr⟩ := hS.at_ (by omega)
      refine sr ?_
      refine lssC (wl_end (wc_seq (cT (wc_skip (k_then (wc_seq (wc_block (sr ?_))))))))
      refine s_indexSl (k := i) UIs.out TIs.size rfl rfl (by omega) (by omega) (by decide) ?_
      refine s_load (vs := [_, _, _, _, _, _]) TIs.out rfl ((hr.ext hh.below).recAt SR.len hs) rfl (by decide) ?_
      refine alC hh ?_
      intro b5 w5 hh
      refine stC hh 0 [_,_,_,_,_,_] ?_
      intro ws hh
      replace hh : Hp _ (.blk _ _ [_, _, _, _, _, _] _ :: _) _ := hh
      refine wl_end (wc_region (mL ?_))
      refine lgC hh 0 [_,_,_,_,_,_] ?_
      refine s_callf (spForm_calls s _ (hT.hp hh) (hb s ms)) FnIs.out rfl (by decide) ?_
      rintro e_ w14 ⟨rfl, hb_⟩
      refine ⟨_, rfl, ?_⟩
      replace hh := hh.ext hb_
      refine wl_buildSlice hh (cs := [_, _, _, _, _, _]) UIs.out TIs.out (evp_cons (ev_agg rfl) evp_nil) rfl rfl (by decide) (by decide) (by decide) rfl (by decide) ?_
      intro b15 w15 hh
      refine wl_append hh (i := 2) rfl rfl rfl (hh.sl_row (i := 0) rfl) UIs.out TIs.out rfl (by decide) (by first | rfl | exact oneCells_u8n _ | exact oneCells_u64s _ | exact oneCells_i64s _ | exact recs_oneCells NR.one _) (by omega) (by omega) (by decide) ?_
      intro A16 c16 w16 hh
      simp only [List.set_cons_zero, List.set_cons_succ] at hh
      replace hh := hh.sub (List.sublist_cons_self _ _)
      refine aL (wl_nil (b_norm (k_then (wc_region ?_))))
      refine addC (mI (wl_nil (k_then ?_)))
      replace hh := hh.sub (List.Sublist.cons _ (List.Sublist.cons_cons _ List.Sublist.slnil))
      refine ⟨⟨i + 1, c16, A16, by omega, rfl, rfl, ?_⟩, by show n - (i + 1) < n - i; omega, ?_⟩
      · rw [take_snoc hs, List.map_append, recs_append]
        exact hh
      · (repeat (first | exact agree_mask _ _ _ | refine agree_upd rfl ?_ | refine agree_mask2 rfl ?_))
    · obtain rfl : i = n := by omega
      rw [List.take_of_length_le (by omega)] at hh
      refine sr ?_
      refine lssC (wl_end (wc_seq (cF ?_)))
      refine wc_exit ?_
      refine k_exit (k_exit (b_here (k_then (sr (mL (aL (wl_end (wc_ret ?_))))))))
      refine ret1 (by first | exact .inr rfl | exact .inl rfl) rfl (v_sl rfl) ?_
      exact ⟨_, _, rfl, hh.at_ (i := 0) rfl, hh.below⟩
def hasB (b : List SR) (p : List NR) : Bool := decide (b.length = p.length) && (b.zip p).all fun x => x.1.has x.2.d
theorem bHas_calls (L : Option Addr) (n c : Nat) (b : List SR) (M : Option Addr) (m c2 : Nat) (p : List NR) (k : Nat) (w : World) (hT : Tab w) (hS : Sl w L n 6 (recs SR.cells b)) (hS2 : Sl w M m 3 (recs NR.cells p)) (hb : ∀ s ∈ b, s.fin k) (hp : ∀ a ∈ p, a.ok) (hn : n ≤ 1000000) (hm : m ≤ 1000000) (hk : k ≤ 3000000) :
    Calls Tryz.prog 33 #[.slice L n c, .slice M m c2] w fun r w' => r = .returned (.bool (hasB b p)) ∧ Below w.heap.size w w' := by
  have hh := Hp.start w
  have hln := hS.recLen SR.len (by decide)
  have hlm := hS2.recLen NR.len (by decide)
  unfold hasB
  by_cases hnm : n = m
  · subst hnm
    rw [decide_eq_true (by omega), Bool.true_and]
    refine calls_vc (N := 27) (l := [.slice L n c, .slice M n c2]) Tryz.func33 rfl rfl (by simp) ?_
    refine sr (aB (wl_end (wc_seq (sr (mL (lenC (mL (lenC ?_))))))))
    refine neqC (wl_end (cF (wc_skip (k_then (wc_seq (sr (mL (lenC (mI (wl_end (wc_block ?_)))))))))))
    refine wc_loop1 [4, 5, 6, 14, 15, 16, 17, 18, 19, 20, 21, 22, 23, 24, 25, 26] 14
      (fun v w' => ∃ i : Nat, i ≤ n ∧ v = .int .i64 i ∧ ((b.take i).zip (p.take i)).all (fun x => x.1.has x.2.d) = true ∧ Hp w [] w')
      (fun v _ => n - (intOf v).toNat) ?_ ?_
    · exact ⟨0, Nat.zero_le _, rfl, rfl, hh⟩
    · clear hh
      rintro ρ' v w' ⟨i, hi, rfl, hall, hh⟩
      by_cases hlt : i < n
      · obtain ⟨s, hs⟩ := get_of_lt (l := b) (k := i) (by omega)
        obtain ⟨a, ha⟩ := get_of_lt (l := p) (k := i) (by omega)
        obtain ⟨ad, rfl, hr⟩ := hS.at_ (by omega)
        obtain ⟨ad2, rfl, hr2⟩ := hS2.at_ (by omega)
        have hc := fun w1 hT1 => spHas_calls s a k w1 hT1 (hb s (List.mem_of_getElem? hs)) (hp a (List.mem_of_getElem? ha)) hk
        have hz : (b.take (i + 1)).zip (p.take (i + 1)) = (b.take i).zip (p.take i) ++ [(s, a)] := by
          rw [take_snoc hs, take_snoc ha, List.zip_append (by simp; omega)]
          rfl
        have hzm : (s, a) ∈ b.zip p := List.mem_of_getElem? (i := i) (by rw [List.getElem?_zip_eq_some]; exact ⟨hs, ha⟩)
        cases g : s.has a.d with
        | true =>
          rw [g] at hc
          refine sr ?_
          refine lssC (wl_end (wc_seq (cT (wc_skip (k_then (wc_seq (wc_block (sr (mI ?_)))))))))
          refine s_indexSl (k := i) UIs.out TIs.size rfl rfl (by omega) (by omega) (by decide) ?_
          refine s_load (vs := [_, _, _, _, _, _]) TIs.out rfl ((hr.ext hh.below).recAt SR.len hs) rfl (by decide) ?_
          refine alC hh ?_
          intro b6 w6 hh
          refine aI ?_
          refine stC hh 0 [_,_,_,_,_,_] ?_
          intro ws hh
          replace hh : Hp _ (.blk _ _ [_, _, _, _, _, _] _ :: _) _ := hh
          refine wl_end (wc_seq ?_)
          refine wc_drawn 5 [[(6, none)], [(1, none)], [(5, none)], [(20, some 1), (21, some 2)], [(22, some 3)]] [(4, 23), (3, 22), (2, 21), (1, 20), (0, 19)] hh mixed (by kernel_rfl) ?_
          refine dlg 0 [_,_,_,_,_,_] ?_
          refine dmL ?_
          refine dmI ?_
          refine dis (i) ?_
          refine dLF [_,_,_] (fun _ hj => (hr2.ext hj.hp.below).recAt NR.len ha) ?_
          refine dx_nil ?_
          intro f W hJ hV
          have hb_6 := hJ.bl
          obtain ⟨v23, v22, v21, v20, v19, _⟩ := hV
          replace hh := hJ.hp
          refine wl_cast (updL_K (eql_cons v23 (eql_cons v22 (eql_cons v21 (eql_cons v20 (eql_cons v19 eql_nil)))))) ?_
          dsimp only [updK]
          clear hJ
          refine s_callf (hc _ (hT.hp hh)) FnIs.out rfl (by decide) ?_
          rintro e_ w24 ⟨rfl, hb_⟩
          refine ⟨_, rfl, ?_⟩
          replace hh := hh.ext hb_
          refine notC ?_
          refine wl_end (cF (wc_skip (b_norm (k_then (wc_region ?_)))))
          refine addC (mI (wl_nil (k_then ?_)))
          replace hh := hh.sub (List.Sublist.cons _ List.Sublist.slnil)
          refine ⟨⟨i + 1, by omega, rfl, by rw [hz, List.all_append, hall]; simp [g], hh⟩, by show n - (i + 1) < n - i; omega, ?_⟩
          (repeat (first | exact agree_mask _ _ _ | refine agree_upd rfl ?_ | refine agree_mask2 rfl ?_))
        | false =>
          rw [g] at hc
          refine sr ?_
          refine lssC (wl_end (wc_seq (cT (wc_skip (k_then (wc_seq (wc_block (sr (mI ?_)))))))))
          refine s_indexSl (k := i) UIs.out TIs.size rfl rfl (by omega) (by omega) (by decide) ?_
          refine s_load (vs := [_, _, _, _, _, _]) TIs.out rfl ((hr.ext hh.below).recAt SR.len hs) rfl (by decide) ?_
          refine alC hh ?_
          intro b6 w6 hh
          refine aI ?_
          refine stC hh 0 [_,_,_,_,_,_] ?_
          intro ws hh
          replace hh : Hp _ (.blk _ _ [_, _, _, _, _, _] _ :: _) _ := hh
          refine wl_end (wc_seq ?_)
          refine wc_drawn 5 [[(6, none)], [(1, none)], [(5, none)], [(20, some 1), (21, some 2)], [(22, some 3)]] [(4, 23), (3, 22), (2, 21), (1, 20), (0, 19)] hh mixed (by kernel_rfl) ?_
          refine dlg 0 [_,_,_,_,_,_] ?_
          refine dmL ?_
          refine dmI ?_
          refine dis (i) ?_
          refine dLF [_,_,_] (fun _ hj => (hr2.ext hj.hp.below).recAt NR.len ha) ?_
          refine dx_nil ?_
          intro f W hJ hV
          have hb_6 := hJ.bl
          obtain ⟨v23, v22, v21, v20, v19, _⟩ := hV
          replace hh := hJ.hp
          refine wl_cast (updL_K (eql_cons v23 (eql_cons v22 (eql_cons v21 (eql_cons v20 (eql_cons v19 eql_nil)))))) ?_
          dsimp only [updK]
          clear hJ
          refine s_callf (hc _ (hT.hp hh)) FnIs.out rfl (by decide) ?_
          rintro e_ w24 ⟨rfl, hb_⟩
          refine ⟨_, rfl, ?_⟩
          replace hh := hh.ext hb_
          refine notC ?_
          refine wl_end (cT (sr (aB (wl_end (wc_ret (b_ret (k_ret (k_ret (b_ret (k_ret ?_))))))))))
          refine ret1 (by first | exact .inr rfl | exact .inl rfl) rfl (v_bool rfl) ?_
          have : (b.zip p).all (fun x => x.1.has x.2.d) = false := List.all_eq_false.2 ⟨(s, a), hzm, by simp [g]⟩
          exact ⟨by rw [this], hh.below⟩
      · rw [List.take_of_length_le (by omega), List.take_of_length_le (by omega)] at hall
        refine sr ?_
        refine lssC (wl_end (wc_seq (cF ?_)))
        refine wc_exit ?_
        refine k_exit (k_exit (b_here (k_then (sr (aB (wl_end (wc_ret ?_)))))))
        refine ret1 (by first | exact .inr rfl | exact .inl rfl) rfl (v_bool rfl) ?_
        exact ⟨by rw [hall], hh.below⟩
  · rw [decide_eq_false (by omega), Bool.false_and]
    refine calls_vc (N := 27) (l := [.slice L n c, .slice M m c2]) Tryz.func33 rfl rfl (by simp) ?_
    refine sr (aB (wl_end (wc_seq (sr (mL (lenC (mL (lenC ?_))))))))
    refine neqC (wl_end (cT (sr (aB (wl_end (wc_ret (k_ret ?_)))))))
    refine ret1 (by first | exact .inr rfl | exact .inl rfl) rfl (v_bool rfl) ?_
    exact ⟨rfl, hh.below⟩
def withinB (a b : List SR) : Bool := decide (a.length = b.length) && (a.zip b).all fun x => x.2.has x.1.lo.d && x.2.has x.1.hi.d
theorem bWithin_calls (L : Option Addr) (n c : Nat) (b : List SR) (M : Option Addr) (m c2 : Nat) (p : List SR) (k : Nat) (w : World) (hT : Tab w) (hS : Sl w L n 6 (recs SR.cells b)) (hS2 : Sl w M m 6 (recs SR.cells p)) (hb : ∀ s ∈ b, s.ok) (hp : ∀ a ∈ p, a.fin k) (hn : n ≤ 1000000) (hm : m ≤ 1000000) (hk : k ≤ 3000000) :
    Calls Tryz.prog 35 #[.slice L n c, .slice M m c2] w fun r w' => r = .returned (.bool (withinB b p)) ∧ Below w.heap.size w w' := by
  have hh := Hp.start w
  have hln := hS.recLen SR.len (by decide)
  have hlm := hS2.recLen SR.len (by decide)
  unfold withinB
  by_cases hnm : n = m
  · subst hnm
    rw [decide_eq_true (by omega), Bool.true_and]
    refine calls_vc (N := 27) (l := [.slice L n c, .slice M n c2]) Tryz.func35 rfl rfl (by simp) ?_
    refine sr (aB (wl_end (wc_seq (sr (mL (lenC (mL (lenC ?_))))))))
    refine neqC (wl_end (cF (wc_skip (k_then (wc_seq (sr (mL (lenC (mI (wl_end (wc_block ?_)))))))))))
    refine wc_loop1 [4, 5, 6, 14, 15, 16, 17, 18, 19, 20, 21, 22, 23, 24, 25, 26] 14
      (fun v w' => ∃ i : Nat, i ≤ n ∧ v = .int .i64 i ∧ ((b.take i).zip (p.take i)).all (fun x => x.2.has x.1.lo.d && x.2.has x.1.hi.d) = true ∧ Hp w [] w')
      (fun v _ => n - (intOf v).toNat) ?_ ?_
    · exact ⟨0, Nat.zero_le _, rfl, rfl, hh⟩
    · clear hh
      rintro ρ' v w' ⟨i, hi, rfl, hall, hh⟩
      by_cases hlt : i < n
      · obtain ⟨s, hs⟩ := get_of_lt (l := b) (k := i) (by omega)
        obtain ⟨a, ha⟩ := get_of_lt (l := p) (k := i) (by omega)
        obtain ⟨ad, rfl, hr⟩ := hS.at_ (by omega)
        obtain ⟨ad2, rfl, hr2⟩ := hS2.at_ (by omega)
        have hc := fun w1 hT1 => spWithin_calls s a k w1 hT1 (hb s (List.mem_of_getElem? hs)) (hp a (List.mem_of_getElem? ha)) hk
        have hz : (b.take (i + 1)).zip (p.take (i + 1)) = (b.take i).zip (p.take i) ++ [(s, a)] := by
          rw [take_snoc hs, take_snoc ha, List.zip_append (by simp; omega)]
          rfl
        have hzm : (s, a) ∈ b.zip p := List.mem_of_getElem? (i := i) (by rw [List.getElem?_zip_eq_some]; exact ⟨hs, ha⟩)
        cases g : (a.has s.lo.d && a.has s.hi.d) with
        | true =>
          rw [g] at hc
          refine sr ?_
          refine lssC (wl_end (wc_seq (cT (wc_skip (k_then (wc_seq (wc_block (sr (mI ?_)))))))))
          refine s_indexSl (k := i) UIs.out TIs.size rfl rfl (by omega) (by omega) (by decide) ?_
          refine s_load (vs := [_, _, _, _, _, _]) TIs.out rfl ((hr.ext hh.below).recAt SR.len hs) rfl (by decide) ?_
          refine alC hh ?_
          intro b6 w6 hh
          refine aI ?_
          refine stC hh 0 [_,_,_,_,_,_] ?_
          intro ws hh
          replace hh : Hp _ (.blk _ _ [_, _, _, _, _, _] _ :: _) _ := hh
          refine wl_end (wc_seq ?_)
          refine wc_drawn 5 [[(6, none)], [(1, none)], [(5, none)], [(20, some 1), (21, some 2)], [(22, some 3)]] [(4, 23), (3, 22), (2, 21), (1, 20), (0, 19)] hh mixed (by kernel_rfl) ?_
          refine dlg 0 [_,_,_,_,_,_] ?_
          refine dmL ?_
          refine dmI ?_
          refine dis (i) ?_
          refine dLF [_,_,_,_,_,_] (fun _ hj => (hr2.ext hj.hp.below).recAt SR.len ha) ?_
          refine dx_nil ?_
          intro f W hJ hV
          have hb_6 := hJ.bl
          obtain ⟨v23, v22, v21, v20, v19, _⟩ := hV
          replace hh := hJ.hp
          refine wl_cast (updL_K (eql_cons v23 (eql_cons v22 (eql_cons v21 (eql_cons v20 (eql_cons v19 eql_nil)))))) ?_
          dsimp only [updK]
          clear hJ
          refine s_callf (hc _ (hT.hp hh)) FnIs.out rfl (by decide) ?_
          rintro e_ w24 ⟨rfl, hb_⟩
          refine ⟨_, rfl, ?_⟩
          replace hh := hh.ext hb_
          refine notC ?_
          refine wl_end (cF (wc_skip (b_norm (k_then (wc_region ?_)))))
          refine addC (mI (wl_nil (k_then ?_)))
          replace hh := hh.sub (List.Sublist.cons _ List.Sublist.slnil)
          refine ⟨⟨i + 1, by omega, rfl, by rw [hz, List.all_append, hall]; simpa using g, hh⟩, by show n - (i + 1) < n - i; omega, ?_⟩
          (repeat (first | exact agree_mask _ _ _ | refine agree_upd rfl ?_ | refine agree_mask2 rfl ?_))
        | false =>
          rw [g] at hc
          refine sr ?_
          refine lssC (wl_end (wc_seq (cT (wc_skip (k_then (wc_seq (wc_block (sr (mI ?_)))))))))
          refine s_indexSl (k := i) UIs.out TIs.size rfl rfl (by omega) (by omega) (by decide) ?_
          refine s_load (vs := [_, _, _, _, _, _]) TIs.out rfl ((hr.ext hh.below).recAt SR.len hs) rfl (by decide) ?_
          refine alC hh ?_
          intro b6 w6 hh
          refine aI ?_
          refine stC hh 0 [_,_,_,_,_,_] ?_
          intro ws hh
          replace hh : Hp _ (.blk _ _ [_, _, _, _, _, _] _ :: _) _ := hh
          refine wl_end (wc_seq ?_)
          refine wc_drawn 5 [[(6, none)], [(1, none)], [(5, none)], [(20, some 1), (21, some 2)], [(22, some 3)]] [(4, 23), (3, 22), (2, 21), (1, 20), (0, 19)] hh mixed (by kernel_rfl) ?_
          refine dlg 0 [_,_,_,_,_,_] ?_
          refine dmL ?_
          refine dmI ?_
          refine dis (i) ?_
          refine dLF [_,_,_,_,_,_] (fun _ hj => (hr2.ext hj.hp.below).recAt SR.len ha) ?_
          refine dx_nil ?_
          intro f W hJ hV
          have hb_6 := hJ.bl
          obtain ⟨v23, v22, v21, v20, v19, _⟩ := hV
          replace hh := hJ.hp
          refine wl_cast (updL_K (eql_cons v23 (eql_cons v22 (eql_cons v21 (eql_cons v20 (eql_cons v19 eql_nil)))))) ?_
          dsimp only [updK]
          clear hJ
          refine s_callf (hc _ (hT.hp hh)) FnIs.out rfl (by decide) ?_
          rintro e_ w24 ⟨rfl, hb_⟩
          refine ⟨_, rfl, ?_⟩
          replace hh := hh.ext hb_
          refine notC ?_
          refine wl_end (cT (sr (aB (wl_end (wc_ret (b_ret (k_ret (k_ret (b_ret (k_ret ?_))))))))))
          refine ret1 (by first | exact .inr rfl | exact .inl rfl) rfl (v_bool rfl) ?_
          have : (b.zip p).all (fun x => x.2.has x.1.lo.d && x.2.has x.1.hi.d) = false := List.all_eq_false.2 ⟨(s, a), hzm, by simp only [g]; exact Bool.false_ne_true⟩
          exact ⟨by rw [this], hh.below⟩
      · rw [List.take_of_length_le (by omega), List.take_of_length_le (by omega)] at hall
        refine sr ?_
        refine lssC (wl_end (wc_seq (cF ?_)))
        refine wc_exit ?_
        refine k_exit (k_exit (b_here (k_then (sr (aB (wl_end (wc_ret ?_)))))))
        refine ret1 (by first | exact .inr rfl | exact .inl rfl) rfl (v_bool rfl) ?_
        exact ⟨by rw [hall], hh.below⟩
  · rw [decide_eq_false (by omega), Bool.false_and]
    refine calls_vc (N := 27) (l := [.slice L n c, .slice M m c2]) Tryz.func35 rfl rfl (by simp) ?_
    refine sr (aB (wl_end (wc_seq (sr (mL (lenC (mL (lenC ?_))))))))
    refine neqC (wl_end (cT (sr (aB (wl_end (wc_ret (k_ret ?_)))))))
    refine ret1 (by first | exact .inr rfl | exact .inl rfl) rfl (v_bool rfl) ?_
    exact ⟨rfl, hh.below⟩
end Go.Proofs.YthmmofllajkejaaGreatDoor
