/- The walks through ogeeref11, third part: corners, halves, parts, equal boxes. -/
import Derived.Test.YthmmofllajkejaaGreatDoorRBoxB
import Derived.Test.YthmmofllajkejaaGreatDoorBoxH
namespace Go.Proofs.YthmmofllajkejaaGreatDoor
open Go.RowKit
-- umode
-- skipu
theorem rbCorner_calls (L : Option Addr) (n c : Nat) (b : List SR) (k : Int) (q : Nat) (w : World) (hS : Sl w L n 6 (recs SR.cells b)) (hb : ∀ s ∈ b, s.fin q) (hn : n ≤ 1000000) (hq : q ≤ 3000000) (hk1 : -9223372036854775808 ≤ k) (hk2 : k ≤ 9223372036854775807) :
    Calls Tryz.prog 45 #[.slice L n c, .int .i64 k] w fun r w' => ∃ A c', r = .returned (.slice A n c') ∧ w'.ownsRow w.heap.size 25 3 (.slice A n c') n (recs NR.cells (b.mapIdx fun i s => cond (cornU k i) s.f.hi s.f.lo)) ∧ Below w.heap.size w w' := by
  have hh := Hp.start w
  have hln := hS.recLen SR.len (by decide)
  refine calls_vc (N := 43) (l := [.slice L n c, .int .i64 k]) Tryz.func45 rfl rfl (by simp) ?_
  refine sr (aL (wl_end (sr (aL (wl_end (wc_seq (sr (aI (wl_end (wc_block ?_))))))))))
  replace hh := hh.nil_row 25 3
  refine wc_loop3 [1, 5, 6, 7, 8, 9, 10, 11, 12, 13, 14, 15, 16, 17, 18, 19, 20, 21, 22, 23, 24, 25, 26, 27, 28, 29, 30, 31, 32, 33, 34, 35, 36, 37, 38, 39, 40, 41] 1 5 6
    (fun v1 v3 v w' => ∃ (i c3 : Nat) (A : Option Addr) (z : Int), i ≤ n ∧ v = .int .i64 i ∧ v3 = .slice A i c3 ∧ v1 = .int .i64 z ∧ (0 < k ∧ z = k / 2 ^ i ∨ k ≤ 0 ∧ -9223372036854775808 ≤ z ∧ z ≤ 0) ∧ Hp w [.row A i c3 25 3 (recs NR.cells ((b.take i).mapIdx fun i s => cond (cornU k i) s.f.hi s.f.lo))] w')
    (fun _ _ v _ => n - (intOf v).toNat) ?_ ?_
  · refine ⟨0, 0, none, k, Nat.zero_le _, rfl, rfl, rfl, ?_, hh⟩
    by_cases h : 0 < k
    · exact .inl ⟨h, by simp⟩
    · exact .inr ⟨by omega, hk1, by omega⟩
  · clear hh
    rintro ρ' v1 v3 v w' ⟨i, c3, A, z, hi, rfl, rfl, rfl, hz, hh⟩
    by_cases hlt : i < n
    · obtain ⟨s, hs⟩ := get_of_lt (l := b) (k := i) (by omega)
      obtain ⟨ad, rfl, hr⟩ := hS.at_ (by omega)
      have hzb : -9223372036854775808 ≤ z ∧ z ≤ 9223372036854775807 := by
        rcases hz with ⟨h, rfl⟩ | ⟨h, h1, h2⟩
        · have h3 : k / 2 ^ i ≤ k := Int.ediv_le_self _ (by omega)
          have h4 : 0 ≤ k / 2 ^ i := Int.ediv_nonneg (by omega) (Int.le_of_lt (Int.pow_pos (by decide)))
          omega
        · omega
      have ht1 : 0 ≤ z → z.tdiv 2 = z / 2 := fun h => Int.tdiv_eq_ediv_of_nonneg h
      have ht2 : z ≤ 0 → z.tdiv 2 = -((-z) / 2) := fun h => by
        have := Int.tdiv_eq_ediv_of_nonneg (a := -z) (b := 2) (by omega)
        rw [Int.neg_tdiv] at this
        omega
      have hqw : IntKind.i64.wrap (z.tdiv 2) = z.tdiv 2 := wrap_i64 (by omega) (by omega)
      have hz2 : 0 < k ∧ z.tdiv 2 = k / 2 ^ (i + 1) ∨ k ≤ 0 ∧ -9223372036854775808 ≤ z.tdiv 2 ∧ z.tdiv 2 ≤ 0 := by
        rcases hz with ⟨h, rfl⟩ | ⟨h, h1, h2⟩
        · refine .inl ⟨h, ?_⟩
          rw [Int.tdiv_eq_ediv_of_nonneg (Int.ediv_nonneg (by omega) (Int.le_of_lt (Int.pow_pos (by decide)))), Int.pow_succ, Int.ediv_ediv_of_nonneg (Int.le_of_lt (Int.pow_pos (by decide)))]
        · exact .inr ⟨h, by omega, by omega⟩
      have hcu : cornU k i = (decide (0 < z) && (decide (i < 62) && decide (z.tmod 2 = 1))) := by
        unfold cornU
        rcases hz with ⟨h, rfl⟩ | ⟨h, h1, h2⟩
        · have h4 : 0 ≤ k / 2 ^ i := Int.ediv_nonneg (by omega) (Int.le_of_lt (Int.pow_pos (by decide)))
          rw [decide_eq_true h, Int.fdiv_eq_ediv_of_nonneg _ (Int.le_of_lt (Int.pow_pos (by decide))), Int.tmod_eq_emod_of_nonneg h4]
          by_cases h5 : 0 < k / 2 ^ i
          · rw [decide_eq_true h5]
          · rw [show k / 2 ^ i = 0 by omega]
            simp
        · rw [decide_eq_false (show ¬ 0 < k by omega), decide_eq_false (show ¬ 0 < z by omega), Bool.false_and, Bool.false_and]
      by_cases h1 : 0 < z
      · by_cases h2 : i < 62
        · by_cases h3 : z.tmod 2 = 1
          · rw [decide_eq_true h1, decide_eq_true h2, decide_eq_true h3] at hcu
            refine wc_seq (sr (mI (mL (lenC ?_))))
            refine lssC (wl_end (cT (wc_skip (k_then (wc_seq (wc_block (sr (mL (mI ?_)))))))))
            refine s_indexAddr UIs.out TIs.size rfl rfl (by omega) (by omega) (by decide) ?_
            refine s_load (vs := [_, _, _, _, _, _]) TIs.out rfl ((hr.ext hh.below).recAt SR.len hs) rfl (by decide) ?_
            refine s_callf (rsForm_calls s q _ (hb s (List.mem_of_getElem? hs)) hq) FnIs.out rfl (by decide) ?_
            rintro e_ w18 ⟨rfl, hb_⟩
            refine ⟨_, rfl, ?_⟩
            replace hh := hh.ext hb_
            refine alC hh ?_
            intro b7 w7 hh
            refine stC hh 0 [_,_,_,_,_,_] ?_
            intro ws hh
            replace hh : Hp _ (.blk _ _ [_, _, _, _, _, _] _ :: _) _ := hh
            refine wl_end (wc_seq (sr (mI ?_)))
            refine gtrC (mB ?_)
            first | refine gS ?_ | (refine gT ?_; refine mI ?_) | refine gV ?_
            first | refine gS ?_ | (refine gT ?_; refine lssC ?_) | refine gV ?_
            first | refine pkT ?_ | refine pkF ?_
            refine mB ?_
            first | refine gS ?_ | (refine gT ?_; refine mI ?_) | refine gV ?_
            first | refine gS ?_ | (refine gT ?_; refine s_rem rfl rfl (by decide) (by decide) ?_) | refine gV ?_
            first | refine gS ?_ | (refine gT ?_; refine eqlC ?_) | refine gV ?_
            first | refine pkT ?_ | refine pkF ?_
            refine wl_end (cT (wc_region (mL (faC ?_))))
            refine lgC hh 0 [_,_,_] ?_
            refine wl_buildSlice hh (cs := [_, _, _]) UIs.out TIs.out (evp_cons (ev_agg rfl) evp_nil) rfl rfl (by decide) (by decide) (by decide) rfl (by decide) ?_
            intro b33 w33 hh
            refine wl_append hh (i := 2) rfl rfl rfl (hh.sl_row (i := 0) rfl) UIs.out TIs.out rfl (by decide) (by first | rfl | exact oneCells_u8n _ | exact oneCells_u64s _ | exact oneCells_i64s _ | exact recs_oneCells NR.one _) (by omega) (by omega) (by decide) ?_
            intro A34 c34 w34 hh
            simp only [List.set_cons_zero, List.set_cons_succ] at hh
            replace hh := hh.sub (List.sublist_cons_self _ _)
            refine aL (wl_end (wc_region (mI ?_)))
            refine s_quo rfl rfl (by decide) (by decide) ?_
            refine aI (wl_nil (b_norm (k_then (wc_region (mI ?_)))))
            refine addC (aI (wl_nil (k_then ?_)))
            rw [hqw]
            replace hh := hh.sub (List.Sublist.cons _ (List.Sublist.cons_cons _ List.Sublist.slnil))
            refine ⟨⟨i + 1, _, _, _, by omega, rfl, rfl, rfl, hz2, ?_⟩, by show n - (i + 1) < n - i; omega, ?_⟩
            · rw [take_snoc hs, List.mapIdx_concat, List.length_take, Nat.min_eq_left (by omega), recs_append, hcu]
              exact hh
            · (repeat (first | exact agree_mask _ _ _ | refine agree_upd rfl ?_ | refine agree_mask2 rfl ?_))
          · rw [decide_eq_true h1, decide_eq_true h2, decide_eq_false h3] at hcu
            refine wc_seq (sr (mI (mL (lenC ?_))))
            refine lssC (wl_end (cT (wc_skip (k_then (wc_seq (wc_block (sr (mL (mI ?_)))))))))
            refine s_indexAddr UIs.out TIs.size rfl rfl (by omega) (by omega) (by decide) ?_
            refine s_load (vs := [_, _, _, _, _, _]) TIs.out rfl ((hr.ext hh.below).recAt SR.len hs) rfl (by decide) ?_
            refine s_callf (rsForm_calls s q _ (hb s (List.mem_of_getElem? hs)) hq) FnIs.out rfl (by decide) ?_
            rintro e_ w18 ⟨rfl, hb_⟩
            refine ⟨_, rfl, ?_⟩
            replace hh := hh.ext hb_
            refine alC hh ?_
            intro b7 w7 hh
            refine stC hh 0 [_,_,_,_,_,_] ?_
            intro ws hh
            replace hh : Hp _ (.blk _ _ [_, _, _, _, _, _] _ :: _) _ := hh
            refine wl_end (wc_seq (sr (mI ?_)))
            refine gtrC (mB ?_)
            first | refine gS ?_ | (refine gT ?_; refine mI ?_) | refine gV ?_
            first | refine gS ?_ | (refine gT ?_; refine lssC ?_) | refine gV ?_
            first | refine pkT ?_ | refine pkF ?_
            refine mB ?_
            first | refine gS ?_ | (refine gT ?_; refine mI ?_) | refine gV ?_
            first | refine gS ?_ | (refine gT ?_; refine s_rem rfl rfl (by decide) (by decide) ?_) | refine gV ?_
            first | refine gS ?_ | (refine gT ?_; refine eqlC ?_) | refine gV ?_
            first | refine pkT ?_ | refine pkF ?_
            refine wl_end (cF (wc_region (mL (faC ?_))))
            refine lgC hh 0 [_,_,_] ?_
            refine wl_buildSlice hh (cs := [_, _, _]) UIs.out TIs.out (evp_cons (ev_agg rfl) evp_nil) rfl rfl (by decide) (by decide) (by decide) rfl (by decide) ?_
            intro b38 w38 hh
            refine wl_append hh (i := 2) rfl rfl rfl (hh.sl_row (i := 0) rfl) UIs.out TIs.out rfl (by decide) (by first | rfl | exact oneCells_u8n _ | exact oneCells_u64s _ | exact oneCells_i64s _ | exact recs_oneCells NR.one _) (by omega) (by omega) (by decide) ?_
            intro A39 c39 w39 hh
            simp only [List.set_cons_zero, List.set_cons_succ] at hh
            replace hh := hh.sub (List.sublist_cons_self _ _)
            refine aL (wl_end (wc_region (mI ?_)))
            refine s_quo rfl rfl (by decide) (by decide) ?_
            refine aI (wl_nil (b_norm (k_then (wc_region (mI ?_)))))
            refine addC (aI (wl_nil (k_then ?_)))
            rw [hqw]
            replace hh := hh.sub (List.Sublist.cons _ (List.Sublist.cons_cons _ List.Sublist.slnil))
            refine ⟨⟨i + 1, _, _, _, by omega, rfl, rfl, rfl, hz2, ?_⟩, by show n - (i + 1) < n - i; omega, ?_⟩
            · rw [take_snoc hs, List.mapIdx_concat, List.length_take, Nat.min_eq_left (by omega), recs_append, hcu]
              exact hh
            · (repeat (first | exact agree_mask _ _ _ | refine agree_upd rfl ?_ | refine agree_mask2 rfl ?_))
        · rw [decide_eq_true h1, decide_eq_false h2] at hcu
          refine wc_seq (sr (mI (mL (lenC ?_))))
          refine lssC (wl_end (cT (wc_skip (k_then (wc_seq (wc_block (sr (mL (mI ?_)))))))))
          refine s_indexAddr UIs.out TIs.size rfl rfl (by omega) (by omega) (by decide) ?_
          refine s_load (vs := [_, _, _, _, _, _]) TIs.out rfl ((hr.ext hh.below).recAt SR.len hs) rfl (by decide) ?_
          refine s_callf (rsForm_calls s q _ (hb s (List.mem_of_getElem? hs)) hq) FnIs.out rfl (by decide) ?_
          rintro e_ w18 ⟨rfl, hb_⟩
          refine ⟨_, rfl, ?_⟩
          replace hh := hh.ext hb_
          refine alC hh ?_
          intro b7 w7 hh
          refine stC hh 0 [_,_,_,_,_,_] ?_
          intro ws hh
          replace hh : Hp _ (.blk _ _ [_, _, _, _, _, _] _ :: _) _ := hh
          refine wl_end (wc_seq (sr (mI ?_)))
          refine gtrC (mB ?_)
          first | refine gS ?_ | (refine gT ?_; refine mI ?_) | refine gV ?_
          first | refine gS ?_ | (refine gT ?_; refine lssC ?_) | refine gV ?_
          first | refine pkT ?_ | refine pkF ?_
          refine mB ?_
          first | refine gS ?_ | (refine gT ?_; refine mI ?_) | refine gV ?_
          first | refine gS ?_ | (refine gT ?_; refine s_remi rfl rfl (by omega) (by omega) (by decide) ?_) | refine gV ?_
          first | refine gS ?_ | (refine gT ?_; refine eqlC ?_) | refine gV ?_
          first | refine pkT ?_ | refine pkF ?_
          refine wl_end (cF (wc_region (mL (faC ?_))))
          refine lgC hh 0 [_,_,_] ?_
          refine wl_buildSlice hh (cs := [_, _, _]) UIs.out TIs.out (evp_cons (ev_agg rfl) evp_nil) rfl rfl (by decide) (by decide) (by decide) rfl (by decide) ?_
          intro b38 w38 hh
          refine wl_append hh (i := 2) rfl rfl rfl (hh.sl_row (i := 0) rfl) UIs.out TIs.out rfl (by decide) (by first | rfl | exact oneCells_u8n _ | exact oneCells_u64s _ | exact oneCells_i64s _ | exact recs_oneCells NR.one _) (by omega) (by omega) (by decide) ?_
          intro A39 c39 w39 hh
          simp only [List.set_cons_zero, List.set_cons_succ] at hh
          replace hh := hh.sub (List.sublist_cons_self _ _)
          refine aL (wl_end (wc_region (mI ?_)))
          refine s_quo rfl rfl (by decide) (by decide) ?_
          refine aI (wl_nil (b_norm (k_then (wc_region (mI ?_)))))
          refine addC (aI (wl_nil (k_then ?_)))
          rw [hqw]
          replace hh := hh.sub (List.Sublist.cons _ (List.Sublist.cons_cons _ List.Sublist.slnil))
          refine ⟨⟨i + 1, _, _, _, by omega, rfl, rfl, rfl, hz2, ?_⟩, by show n - (i + 1) < n - i; omega, ?_⟩
          · rw [take_snoc hs, List.mapIdx_concat, List.length_take, Nat.min_eq_left (by omega), recs_append, hcu]
            exact hh
          · (repeat (first | exact agree_mask _ _ _ | refine agree_upd rfl ?_ | refine agree_mask2 rfl ?_))
      · rw [decide_eq_false h1] at hcu
        refine wc_seq (sr (mI (mL (lenC ?_))))
        refine lssC (wl_end (cT (wc_skip (k_then (wc_seq (wc_block (sr (mL (mI ?_)))))))))
        refine s_indexAddr UIs.out TIs.size rfl rfl (by omega) (by omega) (by decide) ?_
        refine s_load (vs := [_, _, _, _, _, _]) TIs.out rfl ((hr.ext hh.below).recAt SR.len hs) rfl (by decide) ?_
        refine s_callf (rsForm_calls s q _ (hb s (List.mem_of_getElem? hs)) hq) FnIs.out rfl (by decide) ?_
        rintro e_ w18 ⟨rfl, hb_⟩
        refine ⟨_, rfl, ?_⟩
        replace hh := hh.ext hb_
        refine alC hh ?_
        intro b7 w7 hh
        refine stC hh 0 [_,_,_,_,_,_] ?_
        intro ws hh
        replace hh : Hp _ (.blk _ _ [_, _, _, _, _, _] _ :: _) _ := hh
        refine wl_end (wc_seq (sr (mI ?_)))
        refine gtrC (mB ?_)
        first | refine gS ?_ | (refine gT ?_; refine mI ?_) | refine gV ?_
        first | refine gS ?_ | (refine gT ?_; refine lssC ?_) | refine gV ?_
        first | refine pkT ?_ | refine pkF ?_
        refine mB ?_
        first | refine gS ?_ | (refine gT ?_; refine mI ?_) | refine gV ?_
        first | refine gS ?_ | (refine gT ?_; refine s_remi rfl rfl (by omega) (by omega) (by decide) ?_) | refine gV ?_
        first | refine gS ?_ | (refine gT ?_; refine eqlC ?_) | refine gV ?_
        first | refine pkT ?_ | refine pkF ?_
        refine wl_end (cF (wc_region (mL (faC ?_))))
        refine lgC hh 0 [_,_,_] ?_
        refine wl_buildSlice hh (cs := [_, _, _]) UIs.out TIs.out (evp_cons (ev_agg rfl) evp_nil) rfl rfl (by decide) (by decide) (by decide) rfl (by decide) ?_
        intro b38 w38 hh
        refine wl_append hh (i := 2) rfl rfl rfl (hh.sl_row (i := 0) rfl) UIs.out TIs.out rfl (by decide) (by first | rfl | exact oneCells_u8n _ | exact oneCells_u64s _ | exact oneCells_i64s _ | exact recs_oneCells NR.one _) (by omega) (by omega) (by decide) ?_
        intro A39 c39 w39 hh
        simp only [List.set_cons_zero, List.set_cons_succ] at hh
        replace hh := hh.sub (List.sublist_cons_self _ _)
        refine aL (wl_end (wc_region (mI ?_)))
        refine s_quo rfl rfl (by decide) (by decide) ?_
        refine aI (wl_nil (b_norm (k_then (wc_region (mI ?_)))))
        refine addC (aI (wl_nil (k_then ?_)))
        rw [hqw]
        replace hh := hh.sub (List.Sublist.cons _ (List.Sublist.cons_cons _ List.Sublist.slnil))
        refine ⟨⟨i + 1, _, _, _, by omega, rfl, rfl, rfl, hz2, ?_⟩, by show n - (i + 1) < n - i; omega, ?_⟩
        · rw [take_snoc hs, List.mapIdx_concat, List.length_take, Nat.min_eq_left (by omega), recs_append, hcu]
          exact hh
        · (repeat (first | exact agree_mask _ _ _ | refine agree_upd rfl ?_ | refine agree_mask2 rfl ?_))
    · obtain rfl : i = n := by omega
      rw [List.take_of_length_le (by omega)] at hh
      refine wc_seq (sr (mI (mL (lenC ?_))))
      refine lssC (wl_end (cF ?_))
      refine wc_exit ?_
      refine k_exit (k_exit (b_here (k_then (sr (mL (aL (wl_end (wc_ret ?_))))))))
      refine ret1 (by first | exact .inr rfl | exact .inl rfl) rfl (v_sl rfl) ?_
      exact ⟨_, _, rfl, hh.at_ (i := 0) rfl, hh.below⟩
theorem splice_in {cs vs : List Value} {o off sz : Nat} (h1 : o + sz ≤ cs.length) (h2 : off + vs.length ≤ sz) : splice cs (o + off) vs = splice cs o (splice ((cs.drop o).take sz) off vs) := by
  obtain ⟨A, B, C, rfl, hA, hB⟩ : ∃ A B C : List Value, cs = A ++ (B ++ C) ∧ A.length = o ∧ B.length = sz := ⟨cs.take o, (cs.drop o).take sz, (cs.drop o).drop sz, by rw [List.take_append_drop, List.take_append_drop], by simp; omega, by simp; omega⟩
  subst hA hB
  rw [List.drop_left' rfl, List.take_left' rfl]
  unfold splice
  rw [List.take_length_add_append, List.take_append_of_le_length (by omega), List.take_left' rfl]
  have e1 : (A ++ (B ++ C)).drop (A.length + off + vs.length) = B.drop (off + vs.length) ++ C := by
    rw [Nat.add_assoc, List.drop_length_add_append, List.drop_append_of_le_length (by omega)]
  have e2 : (A ++ (B ++ C)).drop (A.length + (B.take off ++ vs ++ B.drop (off + vs.length)).length) = C := by
    rw [List.drop_length_add_append, List.drop_left']
    simp; omega
  rw [e1, e2]
  simp
theorem recs_splice_in {α : Type} {f : α → List Value} {sz : Nat} (hf : ∀ x, (f x).length = sz) {l : List α} {k off : Nat} {x y : α} {vs : List Value} (h : l[k]? = some x) (ho : off + vs.length ≤ sz) (he : splice (f x) off vs = f y) : splice (recs f l) (k * sz + off) vs = recs f (l.set k y) := by
  have hk := (List.getElem?_eq_some_iff.1 h).1
  have : k * sz + sz ≤ l.length * sz := by rw [← Nat.succ_mul]; exact Nat.mul_le_mul_right _ hk
  rw [splice_in (sz := sz) (by rw [recs_len hf]; exact this) ho, recs_get hf h, he, recs_splice hf hk]
theorem SR.mid_f (s : SR) : s.f.mid = s.mid := by
  unfold SR.mid
  have : s.f.lo.d + s.f.hi.d = s.lo.d + s.hi.d := by
    show (nR s.L).d + (nR s.H).d = _
    rw [nR_d, nR_d]
    unfold SR.L SR.H loD hiD
    rcases d_tri s.lo.d s.hi.d with h | h | h
    · rw [if_neg (by grind), if_pos h]
    · rw [h]; simp
    · rw [if_pos h, if_neg (by grind), Dyadic.add_comm]
  rw [this]
theorem rbHalf_calls (L : Option Addr) (n c : Nat) (b : List SR) (a : Nat) (u : Bool) (s : SR) (k : Nat) (w : World) (hS : Sl w L n 6 (recs SR.cells b)) (hb : ∀ s ∈ b, s.fin k) (hn : n ≤ 1000000) (hk : k ≤ 3000000) (hs : b[a]? = some s) :
    Calls Tryz.prog 49 #[.slice L n c, .int .i64 a, .bool u] w fun r w' => ∃ A c', r = .returned (.slice A n c') ∧ w'.ownsRow w.heap.size 80 6 (.slice A n c') n (recs SR.cells ((b.map SR.f).set a (s.f.half (nR s.f.mid) u))) ∧ Below w.heap.size w w' := by
  have hh := Hp.start w
  have hln := hS.recLen SR.len (by decide)
  have han : a < n := by have := (List.getElem?_eq_some_iff.1 hs).1; omega
  have hfs : (b.map SR.f)[a]? = some s.f := by rw [List.getElem?_map, hs]; rfl
  obtain ⟨ad, rfl, hr⟩ := hS.at_ (by omega)
  rw [SR.mid_f]
  have hl6 : (recs SR.cells (b.map SR.f)).length = n * 6 := by rw [recs_len SR.len, List.length_map, hln]
  cases u with
  | true =>
    refine calls_vc (N := 30) (l := [.slice (some ad) n c, .int .i64 a, .bool true]) Tryz.func49 rfl rfl (by simp) ?_
    refine sr (aL (wl_end (sr (mL ?_))))
    refine s_callf (rbForm_calls _ n c b k _ (hS.ext hh.below) hb hn hk) FnIs.out rfl (by decide) ?_
    rintro e_ w9 ⟨A9, c9, rfl, hown_, hb_⟩
    refine ⟨_, rfl, ?_⟩
    replace hh := hh.push_new (x := .row _ _ _ _ _ _) hb_ hown_
    obtain ⟨g9, rfl⟩ := hh.row_some (i := 0) rfl (by omega)
    refine aL (wl_end (wc_seq (sr (mB (wl_end (cT (wc_region (mL (mI (mL (mI ?_)))))))))))
    refine s_indexAddr UIs.out TIs.size rfl rfl (by omega) (by omega) (by decide) ?_
    refine s_load (vs := [_, _, _, _, _, _]) TIs.out rfl ((hr.ext hh.below).recAt SR.len hs) rfl (by decide) ?_
    refine s_callf (rsMid_calls s k _ (hb s (List.mem_of_getElem? hs)) hk) FnIs.out rfl (by decide) ?_
    rintro e_ w17 ⟨rfl, hb_⟩
    refine ⟨_, rfl, ?_⟩
    replace hh := hh.ext hb_
    refine s_indexRow (k := a) UIs.out TIs.size rfl rfl (by omega) (by omega) (by decide) ?_
    refine faC ?_
    refine wl_store_row hh (i := 0) (vs := [_, _, _]) rfl rfl (ev_agg rfl) rfl TIs.out rfl (by omega) rfl ?_
    intro ws hh
    simp only [List.set_cons_zero] at hh
    rw [Nat.add_zero, ← Nat.add_zero (a * 6), recs_splice_in (y := s.f.half (nR s.mid) true) SR.len hfs (by simp) rfl] at hh
    refine wl_end (sr (mL (aL (wl_end (wc_ret ?_)))))
    refine ret1 (by first | exact .inr rfl | exact .inl rfl) rfl (v_sl rfl) ?_
    exact ⟨_, _, rfl, hh.at_ (i := 0) rfl, hh.below⟩
  | false =>
    refine calls_vc (N := 30) (l := [.slice (some ad) n c, .int .i64 a, .bool false]) Tryz.func49 rfl rfl (by simp) ?_
    refine sr (aL (wl_end (sr (mL ?_))))
    refine s_callf (rbForm_calls _ n c b k _ (hS.ext hh.below) hb hn hk) FnIs.out rfl (by decide) ?_
    rintro e_ w9 ⟨A9, c9, rfl, hown_, hb_⟩
    refine ⟨_, rfl, ?_⟩
    replace hh := hh.push_new (x := .row _ _ _ _ _ _) hb_ hown_
    obtain ⟨g9, rfl⟩ := hh.row_some (i := 0) rfl (by omega)
    refine aL (wl_end (wc_seq (sr (mB (wl_end (cF (wc_region (mL (mI (mL (mI ?_)))))))))))
    refine s_indexAddr UIs.out TIs.size rfl rfl (by omega) (by omega) (by decide) ?_
    refine s_load (vs := [_, _, _, _, _, _]) TIs.out rfl ((hr.ext hh.below).recAt SR.len hs) rfl (by decide) ?_
    refine s_callf (rsMid_calls s k _ (hb s (List.mem_of_getElem? hs)) hk) FnIs.out rfl (by decide) ?_
    rintro e_ w26 ⟨rfl, hb_⟩
    refine ⟨_, rfl, ?_⟩
    replace hh := hh.ext hb_
    refine s_indexRow (k := a) UIs.out TIs.size rfl rfl (by omega) (by omega) (by decide) ?_
    refine faC ?_
    refine wl_store_row hh (i := 0) (vs := [_, _, _]) rfl rfl (ev_agg rfl) rfl TIs.out rfl (by omega) rfl ?_
    intro ws hh
    simp only [List.set_cons_zero] at hh
    rw [recs_splice_in (y := s.f.half (nR s.mid) false) SR.len hfs (by simp) rfl] at hh
    refine wl_end (sr (mL (aL (wl_end (wc_ret ?_)))))
    refine ret1 (by first | exact .inr rfl | exact .inl rfl) rfl (v_sl rfl) ?_
    exact ⟨_, _, rfl, hh.at_ (i := 0) rfl, hh.below⟩
end Go.Proofs.YthmmofllajkejaaGreatDoor
