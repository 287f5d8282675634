/- The walks through package box, second part: the volume, one axis changed. -/
import Derived.Test.YthmmofllajkejaaGreatDoorShD
import Derived.Test.YthmmofllajkejaaGreatDoorBox
namespace Go.Proofs.YthmmofllajkejaaGreatDoor
open Go.RowKit
-- umode
-- skipu
theorem SR.szw {k : Nat} {s : SR} (h : s.fin k) : Sz (k + 1) s.wid := (SR.szH h).sub (SR.szL h)
/-- The volume of a box. -/
def volB (b : List SR) : Dyadic := prodD (b.map SR.wid)
theorem bVolume_calls (L : Option Addr) (n c : Nat) (b : List SR) (k : Nat) (w : World) (hT : Tab w) (hS : Sl w L n 6 (recs SR.cells b)) (hb : ∀ s ∈ b, s.fin k) (hn : n ≤ 1000000) (hk : (k + 1) * n ≤ 3000000) (hk2 : k ≤ 3000000) :
    Calls Tryz.prog 39 #[.slice L n c] w fun r w' => r = .returned (.agg #[.bool (nR (volB b)).neg, .string (nR (volB b)).mag, .int .i64 (nR (volB b)).e]) ∧ Below w.heap.size w w' := by
  have hh := Hp.start w
  have hln := hS.recLen SR.len (by decide)
  have hwd : ∀ a ∈ b.map (fun s => nR s.wid), ∃ s ∈ b, nR s.wid = a := fun a ha => List.mem_map.1 ha
  have hmul := fun A c' w1 hT1 hS1 => dMul_calls A n c' (b.map fun s => nR s.wid) w1 hT1 hS1 (fun a ha => by
    obtain ⟨s, hs, rfl⟩ := hwd a ha
    exact (SR.szw (hb s hs)).ok (by omega)) (k + 1) (fun a ha => by
    obtain ⟨s, hs, rfl⟩ := hwd a ha
    rw [nR_d]; exact SR.szw (hb s hs)) (by omega) hn
  rw [show (b.map fun s => nR s.wid).map NR.d = b.map SR.wid by rw [List.map_map]; exact List.map_congr_left fun s _ => nR_d s.wid, ← volB] at hmul
  refine calls_vc (N := 20) (l := [.slice L n c]) Tryz.func39 rfl rfl (by simp) ?_
  refine sr ?_
  refine alC hh ?_
  intro b2 w2 hh
  refine wl_end (sr (aL (wl_end (wc_seq (sr (mL (lenC (mI (wl_end (wc_block ?_))))))))))
  replace hh := hh.nil_row 25 3
  refine wc_loop2 [3, 5, 8, 9, 10, 11, 12, 13, 14, 15, 16, 17] 3 8
    (fun v3 v w' => ∃ (i c3 : Nat) (A : Option Addr), i ≤ n ∧ v = .int .i64 i ∧ v3 = .slice A i c3 ∧ Hp w [.row A i c3 25 3 (recs NR.cells ((b.take i).map fun s => nR s.wid)), .blk b2 25 [.bool false, .string (ByteArray.mk #[]), .int .i64 0] (0, 0)] w')
    (fun _ v _ => n - (intOf v).toNat) ?_ ?_
  · exact ⟨0, 0, none, Nat.zero_le _, rfl, rfl, hh⟩
  · clear hh
    rintro ρ' v3 v w' ⟨i, c3, A, hi, rfl, rfl, hh⟩
    by_cases hlt : i < n
    · obtain ⟨s, hs⟩ := get_of_lt (l := b) (k := i) (by omega)
      have ms := List.mem_of_getElem? hs
      obtain ⟨ad, rfl, hr⟩ := hS.at_ (by omega)
      refine sr ?_
      refine lssC (wl_end (wc_seq (cT (wc_skip (k_then (wc_seq (wc_block (sr ?_))))))))
      refine s_indexSl (k := i) UIs.out TIs.size rfl rfl (by omega) (by omega) (by decide) ?_
      refine s_load (vs := [_, _, _, _, _, _]) TIs.out rfl ((hr.ext hh.below).recAt SR.len hs) rfl (by decide) ?_
      refine alC hh ?_
      intro b5 w5 hh
      refine stC hh 0 [_,_,_,_,_,_] ?_
      intro ws hh
      replace hh : Hp _ (.blk _ _ [_, _, _, _, _, _] _ :: _) _ := hh
      refine wl_end (wc_region (mL ?_))
      refine lgC hh 0 [_,_,_,_,_,_] ?_
      refine s_callf (spWidth_calls s k _ (hT.hp hh) (hb s ms) hk2) FnIs.out rfl (by decide) ?_
      rintro e_ w14 ⟨rfl, hb_⟩
      refine ⟨_, rfl, ?_⟩
      replace hh := hh.ext hb_
      refine wl_buildSlice hh (cs := [_, _, _]) UIs.out TIs.out (evp_cons (ev_agg rfl) evp_nil) rfl rfl (by decide) (by decide) (by decide) rfl (by decide) ?_
      intro b15 w15 hh
      refine wl_append hh (i := 2) rfl rfl rfl (hh.sl_row (i := 0) rfl) UIs.out TIs.out rfl (by decide) (by first | rfl | exact oneCells_u8n _ | exact oneCells_u64s _ | exact oneCells_i64s _ | exact recs_oneCells NR.one _) (by omega) (by omega) (by decide) ?_
      intro A16 c16 w16 hh
      simp only [List.set_cons_zero, List.set_cons_succ] at hh
      replace hh := hh.sub (List.sublist_cons_self _ _)
      refine aL (wl_nil (b_norm (k_then (wc_region ?_))))
      refine addC (mI (wl_nil (k_then ?_)))
      replace hh := hh.sub (List.Sublist.cons _ (List.Sublist.cons_cons _ (List.Sublist.cons_cons _ List.Sublist.slnil)))
      refine ⟨⟨i + 1, c16, A16, by omega, rfl, rfl, ?_⟩, by show n - (i + 1) < n - i; omega, ?_⟩
      · rw [take_snoc hs, List.map_append, recs_append]
        exact hh
      · (repeat (first | exact agree_mask _ _ _ | refine agree_upd rfl ?_ | refine agree_mask2 rfl ?_))
    · obtain rfl : i = n := by omega
      rw [List.take_of_length_le (by omega)] at hh
      refine sr ?_
      refine lssC (wl_end (wc_seq (cF ?_)))
      refine wc_exit ?_
      refine k_exit (k_exit (b_here (k_then (sr (mL ?_)))))
      refine s_callf (hmul _ _ _ (hT.hp hh) (hh.sl_row (i := 0) rfl)) FnIs.out rfl (by decide) ?_
      rintro e_ w19 ⟨rfl, hb_⟩
      refine ⟨_, rfl, ?_⟩
      replace hh := hh.ext hb_
      refine stC hh 1 [_,_,_] ?_
      intro ws hh
      replace hh : Hp _ (_ :: .blk _ _ [_, _, _] _ :: _) _ := hh
      refine wl_end (wc_ret ?_)
      refine retc1 (by first | exact .inr rfl | exact .inl rfl) rfl (r_cell rfl (lv_agg (vs := [_, _, _]) TIs.out (hh.rd_blk_at (i := 1) (n := 3) rfl rfl) rfl) r_nil) ?_
      exact ⟨rfl, hh.below⟩
/-- The widest axis of the first i: -1 where there is none, the first of the widest else. -/
def WideB (b : List SR) (v : Int) : Prop := (b = [] ∧ v = -1) ∨ ∃ (m : Nat) (s : SR), b[m]? = some s ∧ v = m ∧ (∀ (j : Nat) (t : SR), b[j]? = some t → ¬ s.wid < t.wid) ∧ ∀ (j : Nat) (t : SR), j < m → b[j]? = some t → t.wid < s.wid
theorem wide_first {b : List SR} (s : SR) : WideB (List.take 0 b ++ [s]) 0 := by
  refine .inr ⟨0, s, rfl, rfl, fun j t h => ?_, fun j t h => absurd h (Nat.not_lt_zero _)⟩
  match j, h with
  | 0, h => cases h; grind
theorem wide_new {l : List SR} {u s : SR} (h1 : ∀ (j : Nat) (t : SR), l[j]? = some t → ¬ u.wid < t.wid) (g : u.wid < s.wid) : WideB (l ++ [s]) (l.length : Nat) := by
  have h3 : ∀ (j : Nat) (t : SR), j < l.length → (l ++ [s])[j]? = some t → t.wid < s.wid := fun j t hj h => by
    rw [List.getElem?_append_left hj] at h
    have := h1 j t h
    grind
  refine .inr ⟨l.length, s, by simp, rfl, fun j t h => ?_, h3⟩
  by_cases hj : j < l.length
  · have := h3 j t hj h
    grind
  · rw [List.getElem?_append_right (by omega)] at h
    match j - l.length, h with
    | 0, h => cases h; grind
theorem wide_old {l : List SR} {u s : SR} {j : Nat} (hu : l[j]? = some u) (h1 : ∀ (j : Nat) (t : SR), l[j]? = some t → ¬ u.wid < t.wid) (h2 : ∀ (i : Nat) (t : SR), i < j → l[i]? = some t → t.wid < u.wid) (g : ¬ u.wid < s.wid) : WideB (l ++ [s]) (j : Nat) := by
  have hj := (List.getElem?_eq_some_iff.1 hu).1
  refine .inr ⟨j, u, by rw [List.getElem?_append_left hj]; exact hu, rfl, fun i t h => ?_, fun i t hi h => h2 i t hi (by rwa [List.getElem?_append_left (by omega)] at h)⟩
  by_cases hi : i < l.length
  · exact h1 i t (by rwa [List.getElem?_append_left hi] at h)
  · rw [List.getElem?_append_right (by omega)] at h
    match i - l.length, h with
    | 0, h => cases h; exact g
theorem bWidest_calls (L : Option Addr) (n c : Nat) (b : List SR) (k : Nat) (w : World) (hT : Tab w) (hS : Sl w L n 6 (recs SR.cells b)) (hb : ∀ s ∈ b, s.fin k) (hn : n ≤ 1000000) (hk : k ≤ 3000000) :
    Calls Tryz.prog 37 #[.slice L n c] w fun r w' => (∃ v, r = .returned (.int .i64 v) ∧ WideB b v) ∧ Below w.heap.size w w' := by
  have hh := Hp.start w
  have hln := hS.recLen SR.len (by decide)
  refine calls_vc (N := 29) (l := [.slice L n c]) Tryz.func37 rfl rfl (by simp) ?_
  refine sr (aI (wl_end (sr (aI (wl_end (wc_seq (sr (mL (lenC (mI (wl_end ?_)))))))))))
  refine wc_block ?_
  refine wc_loop2 [3, 4, 5, 8, 9, 10, 11, 12, 13, 14, 15, 16, 17, 18, 19, 20, 21, 22, 23, 24, 25, 26, 27] 3 8
    (fun v3 v w' => ∃ (i : Nat) (m : Int), i ≤ n ∧ v = .int .i64 i ∧ v3 = .int .i64 m ∧ WideB (b.take i) m ∧ Hp w [] w')
    (fun _ v _ => n - (intOf v).toNat) ?_ ?_
  · exact ⟨0, -1, Nat.zero_le _, rfl, rfl, .inl ⟨rfl, rfl⟩, hh⟩
  · clear hh
    rintro ρ' v3 v w' ⟨i, m, hi, rfl, rfl, hW, hh⟩
    by_cases hlt : i < n
    · obtain ⟨s, hs⟩ := get_of_lt (l := b) (k := i) (by omega)
      have ms := List.mem_of_getElem? hs
      obtain ⟨ad, rfl, hr⟩ := hS.at_ (by omega)
      rcases hW with ⟨h0, rfl⟩ | ⟨j, u, hu, rfl, hW1, hW2⟩
      · have hi0 : i = 0 := by
          have := congrArg List.length h0
          rw [List.length_take, List.length_nil] at this
          omega
        subst hi0
        refine sr ?_
        refine lssC (wl_end (wc_seq (cT (wc_skip (k_then (wc_seq (wc_block (sr (mI ?_)))))))))
        refine s_indexSl (k := 0) UIs.out TIs.size rfl rfl (by omega) (by omega) (by decide) ?_
        refine s_load (vs := [_, _, _, _, _, _]) TIs.out rfl ((hr.ext hh.below).recAt SR.len hs) rfl (by decide) ?_
        refine alC hh ?_
        intro b5 w5 hh
        refine aI ?_
        refine stC hh 0 [_,_,_,_,_,_] ?_
        intro ws hh
        replace hh : Hp _ (.blk _ _ [_, _, _, _, _, _] _ :: _) _ := hh
        refine wl_end (wc_seq ?_)
        refine wc_drawn 9 [[(3, none)], [(13, some 0)], [(14, some 1)], [(5, none), (15, some 2)], [(16, some 3), (15, some 2)], [(0, none), (15, some 2)], [(3, none), (15, some 2)], [(18, some 5), (19, some 6), (15, some 2)], [(20, some 7), (15, some 2)]] [(8, 21), (7, 20), (6, 19), (5, 18), (4, 17), (3, 16), (2, 15), (1, 14), (0, 13)] hh mixed (by kernel_rfl) ?_
        refine dmI ?_
        refine dlss ?_
        refine dmB ?_
        first | refine dS ?_ | refine dU ?_ | refine dG (dlg 0 [_,_,_,_,_,_] ?_)
        first | refine dS ?_ | refine dU ?_
        first | refine dS ?_ | refine dU ?_ | refine dG (dmL ?_)
        first | refine dS ?_ | refine dU ?_ | refine dG (dmI ?_)
        first | refine dx_skip (i := 7) rfl (fun ρ1 w1 hj hR => (show ρ1 15 = Value.bool _ from hR.2.2.1)) (by decide) ?_ | refine dx_skipU (i := 7) rfl (fun ρ1 w1 hj hR => (show ρ1 15 = undef from hR.2.2.1)) ?_ | refine dx_take (i := 7) rfl (fun ρ1 w1 hj hR => (show ρ1 15 = Value.bool _ from hR.2.2.1)) (fun ρ1 w1 hj hR => x_indexSl UIs.out TIs.size (show ρ1 18 = Value.slice _ _ _ from hR.1) (show ρ1 19 = Value.int _ _ from hR.2.1) rfl (by omega)) ?_
        first | refine dS ?_ | refine dU ?_ | refine dG (dLF [_,_,_,_,_,_] (fun _ hj => hr) ?_)
        refine dx_nil ?_
        intro f W hJ hV
        have hb_5 := hJ.bl
        obtain ⟨v21, v20, v19, v18, v17, v16, v15, v14, v13, _⟩ := hV
        replace hh := hJ.hp
        refine wl_cast (updL_K (eql_cons v21 (eql_cons v20 (eql_cons v19 (eql_cons v18 (eql_cons v17 (eql_cons v16 (eql_cons v15 (eql_cons v14 (eql_cons v13 eql_nil)))))))))) ?_
        dsimp only [updK]
        clear hJ
        refine wl_guard_skip (by decide) rfl rfl (by decide) ?_
        refine wl_guard_skip (by decide) rfl rfl (by decide) ?_
        first | refine gS ?_ | (refine gT ?_; refine gtrC ?_) | refine gV ?_
        first | refine pkT ?_ | refine pkF ?_
        refine wl_end (cT (wc_region (mI (aI (wl_nil (b_norm (k_then (wc_region ?_))))))))
        refine addC (mI (wl_nil (k_then ?_)))
        replace hh := hh.sub (List.Sublist.cons _ List.Sublist.slnil)
        refine ⟨⟨0 + 1, 0, by omega, rfl, rfl, ?_, hh⟩, by show n - (0 + 1) < n - 0; omega, ?_⟩
        · rw [take_snoc hs]; exact wide_first s
        · (repeat (first | exact agree_mask _ _ _ | refine agree_upd rfl ?_ | refine agree_mask2 rfl ?_))
      · have hji : j < i := by
          have := List.getElem?_eq_some_iff.1 hu
          obtain ⟨h, _⟩ := this
          rw [List.length_take] at h
          omega
        have hub : b[j]? = some u := by rw [← hu, List.getElem?_take_of_lt hji]
        have hc1 := fun w1 hT1 => spWidth_calls s k w1 hT1 (hb s ms) hk
        have hc2 := fun w1 hT1 => spWidth_calls u k w1 hT1 (hb u (List.mem_of_getElem? hub)) hk
        have hc3 := fun w1 hT1 => dCmp_calls (nR s.wid) (nR u.wid) w1 hT1 ((SR.szw (hb s ms)).ok (by omega)) ((SR.szw (hb u (List.mem_of_getElem? hub))).ok (by omega))
        simp only [nR_d] at hc3
        have e := cmpD_gt s.wid u.wid
        generalize cmpD s.wid u.wid = cc at *
        by_cases g : 0 < cc
        · refine sr ?_
          refine lssC (wl_end (wc_seq (cT (wc_skip (k_then (wc_seq (wc_block (sr (mI ?_)))))))))
          refine s_indexSl (k := i) UIs.out TIs.size rfl rfl (by omega) (by omega) (by decide) ?_
          refine s_load (vs := [_, _, _, _, _, _]) TIs.out rfl ((hr.ext hh.below).recAt SR.len hs) rfl (by decide) ?_
          refine alC hh ?_
          intro b5 w5 hh
          refine aI ?_
          refine stC hh 0 [_,_,_,_,_,_] ?_
          intro ws hh
          replace hh : Hp _ (.blk _ _ [_, _, _, _, _, _] _ :: _) _ := hh
          refine wl_end (wc_seq ?_)
          refine wc_drawn 9 [[(3, none)], [(13, some 0)], [(14, some 1)], [(5, none), (15, some 2)], [(16, some 3), (15, some 2)], [(0, none), (15, some 2)], [(3, none), (15, some 2)], [(18, some 5), (19, some 6), (15, some 2)], [(20, some 7), (15, some 2)]] [(8, 21), (7, 20), (6, 19), (5, 18), (4, 17), (3, 16), (2, 15), (1, 14), (0, 13)] hh mixed (by kernel_rfl) ?_
          refine dmI ?_
          refine dlss ?_
          refine dmB ?_
          first | refine dS ?_ | refine dU ?_ | refine dG (dlg 0 [_,_,_,_,_,_] ?_)
          refine dx_take_call (i := 4) rfl (fun ρ1 w1 hj hR => (show ρ1 15 = Value.bool _ from hR.2.1)) (fun ρ1 w1 hj hR => run_callf FnIs.out (evs_cons (show ρ1 16 = Value.agg (List.toArray _) from hR.1) evs_nil)) (fun w1 hj => hc1 _ (hT.hp hj.hp)) ?_
          first | refine dS ?_ | refine dU ?_ | refine dG (dmL ?_)
          first | refine dS ?_ | refine dU ?_ | refine dG (dmI ?_)
          first | refine dS ?_ | refine dU ?_ | refine dG (dis (j) ?_)
          first | refine dS ?_ | refine dU ?_ | refine dG (dLF [_,_,_,_,_,_] (fun _ hj => (hr.ext hj.hp.below).recAt SR.len hub) ?_)
          refine dx_nil ?_
          intro f W hJ hV
          have hb_5 := hJ.bl
          obtain ⟨v21, v20, v19, v18, v17, v16, v15, v14, v13, _⟩ := hV
          replace hh := hJ.hp
          refine wl_cast (updL_K (eql_cons v21 (eql_cons v20 (eql_cons v19 (eql_cons v18 (eql_cons v17 (eql_cons v16 (eql_cons v15 (eql_cons v14 (eql_cons v13 eql_nil)))))))))) ?_
          dsimp only [updK]
          clear hJ
          refine wl_guard_take rfl rfl ?_
          refine s_callf (hc2 _ (hT.hp hh)) FnIs.out rfl (by decide) ?_
          rintro e_ w22 ⟨rfl, hb_⟩
          refine ⟨_, rfl, ?_⟩
          replace hh := hh.ext hb_
          refine wl_guard_take rfl rfl ?_
          refine s_callf (hc3 _ (hT.hp hh)) FnIs.out rfl (by decide) ?_
          rintro e_ w23 ⟨rfl, hb_⟩
          refine ⟨_, rfl, ?_⟩
          replace hh := hh.ext hb_
          first | refine gS ?_ | (refine gT ?_; refine gtrC ?_) | refine gV ?_
          first | refine pkT ?_ | refine pkF ?_
          refine wl_end (cT (wc_region (mI (aI (wl_nil (b_norm (k_then (wc_region ?_))))))))
          refine addC (mI (wl_nil (k_then ?_)))
          replace hh := hh.sub (List.Sublist.cons _ List.Sublist.slnil)
          refine ⟨⟨i + 1, i, by omega, rfl, rfl, ?_, hh⟩, by show n - (i + 1) < n - i; omega, ?_⟩
          · have := wide_new (s := s) hW1 (e.1 g)
            rwa [List.length_take, Nat.min_eq_left (by omega), ← take_snoc hs] at this
          · (repeat (first | exact agree_mask _ _ _ | refine agree_upd rfl ?_ | refine agree_mask2 rfl ?_))
        · refine sr ?_
          refine lssC (wl_end (wc_seq (cT (wc_skip (k_then (wc_seq (wc_block (sr (mI ?_)))))))))
          refine s_indexSl (k := i) UIs.out TIs.size rfl rfl (by omega) (by omega) (by decide) ?_
          refine s_load (vs := [_, _, _, _, _, _]) TIs.out rfl ((hr.ext hh.below).recAt SR.len hs) rfl (by decide) ?_
          refine alC hh ?_
          intro b5 w5 hh
          refine aI ?_
          refine stC hh 0 [_,_,_,_,_,_] ?_
          intro ws hh
          replace hh : Hp _ (.blk _ _ [_, _, _, _, _, _] _ :: _) _ := hh
          refine wl_end (wc_seq ?_)
          refine wc_drawn 9 [[(3, none)], [(13, some 0)], [(14, some 1)], [(5, none), (15, some 2)], [(16, some 3), (15, some 2)], [(0, none), (15, some 2)], [(3, none), (15, some 2)], [(18, some 5), (19, some 6), (15, some 2)], [(20, some 7), (15, some 2)]] [(8, 21), (7, 20), (6, 19), (5, 18), (4, 17), (3, 16), (2, 15), (1, 14), (0, 13)] hh mixed (by kernel_rfl) ?_
          refine dmI ?_
          refine dlss ?_
          refine dmB ?_
          first | refine dS ?_ | refine dU ?_ | refine dG (dlg 0 [_,_,_,_,_,_] ?_)
          refine dx_take_call (i := 4) rfl (fun ρ1 w1 hj hR => (show ρ1 15 = Value.bool _ from hR.2.1)) (fun ρ1 w1 hj hR => run_callf FnIs.out (evs_cons (show ρ1 16 = Value.agg (List.toArray _) from hR.1) evs_nil)) (fun w1 hj => hc1 _ (hT.hp hj.hp)) ?_
          first | refine dS ?_ | refine dU ?_ | refine dG (dmL ?_)
          first | refine dS ?_ | refine dU ?_ | refine dG (dmI ?_)
          first | refine dS ?_ | refine dU ?_ | refine dG (dis (j) ?_)
          first | refine dS ?_ | refine dU ?_ | refine dG (dLF [_,_,_,_,_,_] (fun _ hj => (hr.ext hj.hp.below).recAt SR.len hub) ?_)
          refine dx_nil ?_
          intro f W hJ hV
          have hb_5 := hJ.bl
          obtain ⟨v21, v20, v19, v18, v17, v16, v15, v14, v13, _⟩ := hV
          replace hh := hJ.hp
          refine wl_cast (updL_K (eql_cons v21 (eql_cons v20 (eql_cons v19 (eql_cons v18 (eql_cons v17 (eql_cons v16 (eql_cons v15 (eql_cons v14 (eql_cons v13 eql_nil)))))))))) ?_
          dsimp only [updK]
          clear hJ
          refine wl_guard_take rfl rfl ?_
          refine s_callf (hc2 _ (hT.hp hh)) FnIs.out rfl (by decide) ?_
          rintro e_ w22 ⟨rfl, hb_⟩
          refine ⟨_, rfl, ?_⟩
          replace hh := hh.ext hb_
          refine wl_guard_take rfl rfl ?_
          refine s_callf (hc3 _ (hT.hp hh)) FnIs.out rfl (by decide) ?_
          rintro e_ w23 ⟨rfl, hb_⟩
          refine ⟨_, rfl, ?_⟩
          replace hh := hh.ext hb_
          first | refine gS ?_ | (refine gT ?_; refine gtrC ?_) | refine gV ?_
          first | refine pkT ?_ | refine pkF ?_
          refine wl_end (cF (wc_skip (b_norm (k_then (wc_region ?_)))))
          refine addC (mI (wl_nil (k_then ?_)))
          replace hh := hh.sub (List.Sublist.cons _ List.Sublist.slnil)
          refine ⟨⟨i + 1, j, by omega, rfl, rfl, ?_, hh⟩, by show n - (i + 1) < n - i; omega, ?_⟩
          · rw [take_snoc hs]
            exact wide_old hu hW1 hW2 fun h => g (e.2 h)
          · (repeat (first | exact agree_mask _ _ _ | refine agree_upd rfl ?_ | refine agree_mask2 rfl ?_))
    · obtain rfl : i = n := by omega
      rw [List.take_of_length_le (by omega)] at hW
      refine sr ?_
      refine lssC (wl_end (wc_seq (cF ?_)))
      refine wc_exit ?_
      refine k_exit (k_exit (b_here (k_then (sr (mI (aI (wl_end (wc_ret ?_))))))))
      refine ret1 (by first | exact .inr rfl | exact .inl rfl) rfl (v_int rfl) ?_
      exact ⟨⟨_, rfl, hW⟩, hh.below⟩
end Go.Proofs.YthmmofllajkejaaGreatDoor
