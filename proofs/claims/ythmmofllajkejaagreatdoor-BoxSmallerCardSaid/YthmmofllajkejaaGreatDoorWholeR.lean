/- The walks through the document's answer for whole numbers (ogeeref02), as far as layer 4 needs it. -/
import Derived.Test.YthmmofllajkejaaGreatDoorShD
import Derived.Test.YthmmofllajkejaaGreatDoorRefs
import Derived.Test.YthmmofllajkejaaGreatDoorWhol
import Derived.Test.YthmmofllajkejaaGreatDoorDraws
namespace Go.Proofs.YthmmofllajkejaaGreatDoor
open Go.RowKit
-- umode
theorem blen_zero_iff {n : Nat} : blen n = 0 ↔ n = 0 := by
  constructor
  · intro h
    have := lt_blen n
    rw [h] at this
    omega
  · intro h; rw [h]; exact blen_zero
theorem blen_mono {a b : Nat} (h : a ≤ b) : blen a ≤ blen b := blen_le (Nat.lt_of_le_of_lt h (lt_blen b))
theorem blen_add (a b : Nat) : blen (a + b) ≤ blen a + blen b + 1 := by
  apply blen_le
  have h1 := lt_blen a
  have h2 := lt_blen b
  have h3 : 2 ^ blen a ≤ 2 ^ (blen a + blen b) := Nat.pow_le_pow_right (by omega) (by omega)
  have h4 : 2 ^ blen b ≤ 2 ^ (blen a + blen b) := Nat.pow_le_pow_right (by omega) (by omega)
  rw [Nat.pow_succ]
  omega
theorem xform_calls (s : Bool) (m : ByteArray) (w : World) (hm : m.size ≤ 1000000000) :
    Calls Tryz.prog 144 #[.agg #[.bool s, .string m]] w fun e w' => e = .returned (.agg #[.bool (iN (iv s m)), .string (iM (iv s m))]) ∧ Below w.heap.size w w' := by
  have hh := Hp.start w
  have h1 := bits_len m
  rw [iN_iv, iM_iv]
  cases s with
  | false =>
    refine calls_vc (N := 16) (l := [.agg #[.bool false, .string m]]) Tryz.func144 rfl rfl (by simp) ?_
    refine sr ?_
    refine bxC hh [_,_] ?_
    intro b1 w1 hh
    refine alC hh ?_
    intro b2 w2 hh
    refine wl_end (sr (faC ?_))
    refine l1C hh 1 ?_
    refine s_callf (rbits_calls m _ hm) FnIs.out rfl (by decide) ?_
    rintro e_ w6 ⟨A6, c6, rfl, hown_, hb_⟩
    refine ⟨_, rfl, ?_⟩
    replace hh := hh.push_new (x := .row _ _ _ _ _ _) hb_ hown_
    refine s_callf (rtext_calls _ _ _ (digs 2 (bN m)) _ (hh.sl_row (i := 0) rfl) (can_2 _) (hh.row_cap (i := 0) rfl) (by omega)) FnIs.out rfl (by decide) ?_
    rintro e_ w7 ⟨rfl, hb_⟩
    refine ⟨_, rfl, ?_⟩
    replace hh := hh.ext hb_
    rw [dig_2]
    refine aS (wl_end (sr (faC ?_)))
    refine l1C hh 2 ?_
    refine mB ?_
    first | refine gS ?_ | (refine gT ?_; refine mS ?_) | refine gV ?_
    first | refine gS ?_ | (refine gT ?_; (first | refine s_neq_str_f rfl rfl (by first | rfl | assumption | decide) (by decide) ?_ | refine s_neq_str_t rfl rfl (by first | assumption | decide) (by decide) ?_)) | refine gV ?_
    first | refine pkT ?_ | refine pkF ?_
    refine mS ?_
    refine bdC [_,_] ?_
    refine stC hh 1 [_,_] ?_
    intro ws hh
    replace hh : Hp _ (_ :: .blk _ _ [_, _] _ :: _) _ := hh
    refine wl_end (wc_ret ?_)
    refine retc1 (by first | exact .inr rfl | exact .inl rfl) rfl (r_cell rfl (lv_agg (vs := [_, _]) TIs.out (hh.rd_blk_at (i := 1) (n := 2) rfl rfl) rfl) r_nil) ?_
    exact ⟨rfl, hh.below⟩
  | true =>
    by_cases h0 : sN (bN m) = ByteArray.mk #[]
    · refine calls_vc (N := 16) (l := [.agg #[.bool true, .string m]]) Tryz.func144 rfl rfl (by simp) ?_
      refine sr ?_
      refine bxC hh [_,_] ?_
      intro b1 w1 hh
      refine alC hh ?_
      intro b2 w2 hh
      refine wl_end (sr (faC ?_))
      refine l1C hh 1 ?_
      refine s_callf (rbits_calls m _ hm) FnIs.out rfl (by decide) ?_
      rintro e_ w6 ⟨A6, c6, rfl, hown_, hb_⟩
      refine ⟨_, rfl, ?_⟩
      replace hh := hh.push_new (x := .row _ _ _ _ _ _) hb_ hown_
      refine s_callf (rtext_calls _ _ _ (digs 2 (bN m)) _ (hh.sl_row (i := 0) rfl) (can_2 _) (hh.row_cap (i := 0) rfl) (by omega)) FnIs.out rfl (by decide) ?_
      rintro e_ w7 ⟨rfl, hb_⟩
      refine ⟨_, rfl, ?_⟩
      replace hh := hh.ext hb_
      rw [dig_2]
      refine aS (wl_end (sr (faC ?_)))
      refine l1C hh 2 ?_
      refine mB ?_
      first | refine gS ?_ | (refine gT ?_; refine mS ?_) | refine gV ?_
      first | refine gS ?_ | (refine gT ?_; (first | refine s_neq_str_f rfl rfl (by first | rfl | assumption | decide) (by decide) ?_ | refine s_neq_str_t rfl rfl (by first | assumption | decide) (by decide) ?_)) | refine gV ?_
      first | refine pkT ?_ | refine pkF ?_
      refine mS ?_
      refine bdC [_,_] ?_
      refine stC hh 1 [_,_] ?_
      intro ws hh
      replace hh : Hp _ (_ :: .blk _ _ [_, _] _ :: _) _ := hh
      refine wl_end (wc_ret ?_)
      refine retc1 (by first | exact .inr rfl | exact .inl rfl) rfl (r_cell rfl (lv_agg (vs := [_, _]) TIs.out (hh.rd_blk_at (i := 1) (n := 2) rfl rfl) rfl) r_nil) ?_
      have h1 : bN m = 0 := by rw [← sN_zero] at h0; exact sN_inj h0
      rw [decide_eq_false (by omega)]
      exact ⟨rfl, hh.below⟩
    · refine calls_vc (N := 16) (l := [.agg #[.bool true, .string m]]) Tryz.func144 rfl rfl (by simp) ?_
      refine sr ?_
      refine bxC hh [_,_] ?_
      intro b1 w1 hh
      refine alC hh ?_
      intro b2 w2 hh
      refine wl_end (sr (faC ?_))
      refine l1C hh 1 ?_
      refine s_callf (rbits_calls m _ hm) FnIs.out rfl (by decide) ?_
      rintro e_ w6 ⟨A6, c6, rfl, hown_, hb_⟩
      refine ⟨_, rfl, ?_⟩
      replace hh := hh.push_new (x := .row _ _ _ _ _ _) hb_ hown_
      refine s_callf (rtext_calls _ _ _ (digs 2 (bN m)) _ (hh.sl_row (i := 0) rfl) (can_2 _) (hh.row_cap (i := 0) rfl) (by omega)) FnIs.out rfl (by decide) ?_
      rintro e_ w7 ⟨rfl, hb_⟩
      refine ⟨_, rfl, ?_⟩
      replace hh := hh.ext hb_
      rw [dig_2]
      refine aS (wl_end (sr (faC ?_)))
      refine l1C hh 2 ?_
      refine mB ?_
      first | refine gS ?_ | (refine gT ?_; refine mS ?_) | refine gV ?_
      first | refine gS ?_ | (refine gT ?_; (first | refine s_neq_str_f rfl rfl (by first | rfl | assumption | decide) (by decide) ?_ | refine s_neq_str_t rfl rfl (by first | assumption | decide) (by decide) ?_)) | refine gV ?_
      first | refine pkT ?_ | refine pkF ?_
      refine mS ?_
      refine bdC [_,_] ?_
      refine stC hh 1 [_,_] ?_
      intro ws hh
      replace hh : Hp _ (_ :: .blk _ _ [_, _] _ :: _) _ := hh
      refine wl_end (wc_ret ?_)
      refine retc1 (by first | exact .inr rfl | exact .inl rfl) rfl (r_cell rfl (lv_agg (vs := [_, _]) TIs.out (hh.rd_blk_at (i := 1) (n := 2) rfl rfl) rfl) r_nil) ?_
      have h1 : bN m ≠ 0 := fun h => h0 (by rw [h, sN_zero])
      rw [decide_eq_true h1]
      exact ⟨rfl, hh.below⟩
theorem xneg_calls (s : Bool) (m : ByteArray) (w : World) (hm : m.size ≤ 1000000000) :
    Calls Tryz.prog 173 #[.agg #[.bool s, .string m]] w fun e w' => e = .returned (.agg #[.bool (iN (-(iv s m))), .string (iM (-(iv s m)))]) ∧ Below w.heap.size w w' := by
  have hh := Hp.start w
  have e1 : iv (!s) m = -(iv s m) := by unfold iv; cases s <;> simp
  refine calls_vc (N := 10) (l := [.agg #[.bool s, .string m]]) Tryz.func173 rfl rfl (by simp) ?_
  refine sr ?_
  refine bxC hh [_,_] ?_
  intro b1 w1 hh
  refine alC hh ?_
  intro b2 w2 hh
  refine wl_end (sr (faC ?_))
  refine l1C hh 1 ?_
  refine notC ?_
  refine faC ?_
  refine l1C hh 1 ?_
  refine bdC [_,_] ?_
  refine s_callf (xform_calls (!s) m _ hm) FnIs.out rfl (by decide) ?_
  rintro e_ w9 ⟨rfl, hb_⟩
  refine ⟨_, rfl, ?_⟩
  replace hh := hh.ext hb_
  rw [e1]
  refine stC hh 0 [_,_] ?_
  intro ws hh
  replace hh : Hp _ (.blk _ _ [_, _] _ :: _) _ := hh
  refine wl_end (wc_ret ?_)
  refine retc1 (by first | exact .inr rfl | exact .inl rfl) rfl (r_cell rfl (lv_agg (vs := [_, _]) TIs.out (hh.rd_blk_at (i := 0) (n := 2) rfl rfl) rfl) r_nil) ?_
  exact ⟨rfl, hh.below⟩
theorem xsign_calls (s : Bool) (m : ByteArray) (w : World) (hm : m.size ≤ 1000000000) :
    Calls Tryz.prog 151 #[.agg #[.bool s, .string m]] w fun e w' => e = .returned (.int .i64 (iv s m).sign) ∧ Below w.heap.size w w' := by
  have hh := Hp.start w
  by_cases h0 : bN m = 0
  · have hb : blen (bN m) = 0 := blen_zero_iff.2 h0
    refine calls_vc (N := 9) (l := [.agg #[.bool s, .string m]]) Tryz.func151 rfl rfl (by simp) ?_
    refine sr ?_
    refine bxC hh [_,_] ?_
    intro b1 w1 hh
    refine aI (wl_end (wc_seq (sr (faC ?_))))
    refine l1C hh 0 ?_
    refine s_callf (rLen_calls m _ hm) FnIs.out rfl (by decide) ?_
    rintro e_ w5 ⟨rfl, hb_⟩
    refine ⟨_, rfl, ?_⟩
    replace hh := hh.ext hb_
    refine eqlC (wl_end (cT (sr (aI (wl_end (wc_ret (k_ret ?_)))))))
    refine ret1 (by first | exact .inr rfl | exact .inl rfl) rfl (v_int rfl) ?_
    have hz : iv s m = 0 := by unfold iv; split <;> omega
    exact ⟨by rw [hz]; rfl, hh.below⟩
  · have hb : blen (bN m) ≠ 0 := fun h => h0 (blen_zero_iff.1 h)
    cases s with
    | true =>
      refine calls_vc (N := 9) (l := [.agg #[.bool true, .string m]]) Tryz.func151 rfl rfl (by simp) ?_
      refine sr ?_
      refine bxC hh [_,_] ?_
      intro b1 w1 hh
      refine aI (wl_end (wc_seq (sr (faC ?_))))
      refine l1C hh 0 ?_
      refine s_callf (rLen_calls m _ hm) FnIs.out rfl (by decide) ?_
      rintro e_ w5 ⟨rfl, hb_⟩
      refine ⟨_, rfl, ?_⟩
      replace hh := hh.ext hb_
      refine eqlC (wl_end (cF (wc_skip (k_then (wc_seq (sr (faC ?_)))))))
      refine l1C hh 0 ?_
      refine wl_end (cT (sr (aI (wl_end (wc_ret (k_ret ?_))))))
      refine ret1 (by first | exact .inr rfl | exact .inl rfl) rfl (v_int rfl) ?_
      have hz : iv true m < 0 := by unfold iv; rw [if_pos rfl]; omega
      exact ⟨by rw [Int.sign_eq_neg_one_of_neg hz], hh.below⟩
    | false =>
      refine calls_vc (N := 9) (l := [.agg #[.bool false, .string m]]) Tryz.func151 rfl rfl (by simp) ?_
      refine sr ?_
      refine bxC hh [_,_] ?_
      intro b1 w1 hh
      refine aI (wl_end (wc_seq (sr (faC ?_))))
      refine l1C hh 0 ?_
      refine s_callf (rLen_calls m _ hm) FnIs.out rfl (by decide) ?_
      rintro e_ w5 ⟨rfl, hb_⟩
      refine ⟨_, rfl, ?_⟩
      replace hh := hh.ext hb_
      refine eqlC (wl_end (cF (wc_skip (k_then (wc_seq (sr (faC ?_)))))))
      refine l1C hh 0 ?_
      refine wl_end (cF (wc_skip (k_then (sr (aI (wl_end (wc_ret ?_)))))))
      refine ret1 (by first | exact .inr rfl | exact .inl rfl) rfl (v_int rfl) ?_
      have hz : 0 < iv false m := by unfold iv; rw [if_neg (by simp)]; omega
      exact ⟨by rw [Int.sign_eq_one_of_pos hz], hh.below⟩
theorem xOf_calls (n : Int) (w : World) (h1 : -9223372036854775808 ≤ n) (h2 : n ≤ 9223372036854775807) :
    Calls Tryz.prog 55 #[.int .i64 n] w fun e w' => e = .returned (.agg #[.bool (iN n), .string (iM n)]) ∧ Below w.heap.size w w' := by
  have hh := Hp.start w
  by_cases h0 : n < 0
  · have hn : iN n = true := decide_eq_true h0
    obtain ⟨m, hm⟩ := Int.eq_ofNat_of_zero_le (by omega : 0 ≤ -(n + 1))
    have ha : n.natAbs = m + 1 := by omega
    have hw : (m + 1) % 18446744073709551616 = m + 1 := Nat.mod_eq_of_lt (by omega)
    refine calls_vc (N := 16) (l := [.int .i64 n]) Tryz.func55 rfl rfl (by simp) ?_
    refine sr ?_
    refine alC hh ?_
    intro b2 w2 hh
    refine wl_end (wc_seq (sr (mI ?_)))
    refine lssC (wl_end (cT (sr (mI ?_))))
    refine addC ?_
    refine s_negi rfl (by omega) (by omega) (by decide) ?_
    rw [show -(n + 1) = (m : Int) from hm]
    first | refine s_convu_lt UIs.out UIs.out rfl (by first | assumption | omega) (by decide) ?_ | refine s_convu UIs.out UIs.out rfl (by decide) ?_
    refine s_addu (b := 1) rfl rfl (by decide) ?_
    rw [hw]
    refine s_callf (rOf_calls (m + 1) _ (by omega)) FnIs.out rfl (by decide) ?_
    rintro e_ w10 ⟨rfl, hb_⟩
    refine ⟨_, rfl, ?_⟩
    replace hh := hh.ext hb_
    rw [← ha]
    refine bdC [_,_] ?_
    refine stC hh 0 [_,_] ?_
    intro ws hh
    replace hh : Hp _ (.blk _ _ [_, _] _ :: _) _ := hh
    refine wl_end (wc_ret (k_ret ?_))
    refine retc1 (by first | exact .inr rfl | exact .inl rfl) rfl (r_cell rfl (lv_agg (vs := [_, _]) TIs.out (hh.rd_blk_at (i := 0) (n := 2) rfl rfl) rfl) r_nil) ?_
    rw [hn]
    exact ⟨rfl, hh.below⟩
  · obtain ⟨m, rfl⟩ := Int.eq_ofNat_of_zero_le (by omega : 0 ≤ n)
    have hn : iN (m : Int) = false := decide_eq_false (by omega)
    have hm : m < 18446744073709551616 := by omega
    have e1 : iM (m : Int) = sN m := rfl
    refine calls_vc (N := 16) (l := [.int .i64 (m : Int)]) Tryz.func55 rfl rfl (by simp) ?_
    refine sr ?_
    refine alC hh ?_
    intro b2 w2 hh
    refine wl_end (wc_seq (sr (mI ?_)))
    refine lssC (wl_end (cF (wc_skip (k_then (sr (mI ?_))))))
    first | refine s_convu_lt UIs.out UIs.out rfl (by first | assumption | omega) (by decide) ?_ | refine s_convu UIs.out UIs.out rfl (by decide) ?_
    refine s_callf (rOf_calls m _ hm) FnIs.out rfl (by decide) ?_
    rintro e_ w14 ⟨rfl, hb_⟩
    refine ⟨_, rfl, ?_⟩
    replace hh := hh.ext hb_
    refine bdC [_,_] ?_
    refine stC hh 0 [_,_] ?_
    intro ws hh
    replace hh : Hp _ (.blk _ _ [_, _] _ :: _) _ := hh
    refine wl_end (wc_ret ?_)
    refine retc1 (by first | exact .inr rfl | exact .inl rfl) rfl (r_cell rfl (lv_agg (vs := [_, _]) TIs.out (hh.rd_blk_at (i := 0) (n := 2) rfl rfl) rfl) r_nil) ?_
    rw [hn, e1]
    exact ⟨rfl, hh.below⟩
theorem xplus_calls (s t : Bool) (a b : ByteArray) (w : World) (ha : a.size ≤ 100000000) (hb : b.size ≤ 100000000) :
    Calls Tryz.prog 134 #[.agg #[.bool s, .string a], .agg #[.bool t, .string b]] w fun e w' => e = .returned (.agg #[.bool (iN (iv s a + iv t b)), .string (iM (iv s a + iv t b))]) ∧ Below w.heap.size w w' := by
  have hh := Hp.start w
  have hba := bN_blen a
  have hbb := bN_blen b
  by_cases hst : s = t
  · subst hst
    have e1 : iv s (sN (bN a + bN b)) = iv s a + iv s b := by unfold iv; rw [bN_sN]; split <;> omega
    have hsz : (sN (bN a + bN b)).size ≤ 1000000000 := by rw [sN_size]; have := blen_add (bN a) (bN b); omega
    rw [← e1]
    refine calls_vc (N := 49) (l := [.agg #[.bool s, .string a], .agg #[.bool s, .string b]]) Tryz.func134 rfl rfl (by simp) ?_
    refine sr ?_
    refine bxC hh [_,_] ?_
    intro b2 w2 hh
    refine bxC hh [_,_] ?_
    intro b3 w3 hh
    refine alC hh ?_
    intro b4 w4 hh
    refine wl_end (wc_seq (sr (faC ?_)))
    refine l1C hh 2 ?_
    refine faC ?_
    refine l1C hh 1 ?_
    first | refine s_eqb_t UIs.out rfl rfl (by first | rfl | assumption) (by decide) ?_ | refine s_eqb_f UIs.out rfl rfl (by first | rfl | assumption | decide) (by decide) ?_ | refine s_eql_bool UIs.out rfl rfl (by decide) ?_
    refine wl_end (cT (wc_seq ?_))
    refine wc_drawn 8 [[(2, none)], [(12, some 0)], [(2, none)], [(14, some 2)], [(3, none)], [(16, some 4)], [(15, some 3), (17, some 5)], [(18, some 6)]] [(7, 19), (6, 18), (5, 17), (4, 16), (3, 15), (2, 14), (1, 13), (0, 12)] hh mixed (by kernel_rfl) ?_
    refine dfa ?_
    refine dl1 2 ?_
    refine dfa ?_
    refine dl1 2 ?_
    refine dfa ?_
    refine dl1 1 ?_
    refine dBS [_,_] ?_
    refine dx_gen (i := 7) (Is (.string (sN (bN a + bN b)))) Is.ext ?_ ?_
    · intro ρ1 w1 hj hR
      obtain ⟨A18, c18, h18, s18⟩ := hR.1
      exact og_enter rfl (run_callf FnIs.out (evs_cons h18 evs_nil)) (rAdd_calls A18 2 c18 [a, b] _ s18 (by omega) (by simp; omega)) (fun _ _ hq => ⟨_, hq.1, hq.2, rfl⟩)
    refine dx_nil ?_
    intro f W hJ hV
    have hb_2 := hJ.bl
    obtain ⟨v19, v18, v17, v16, v15, v14, v13, v12, _⟩ := hV
    obtain ⟨A18, c18, e18, f18⟩ : Rows _ _ _ (f 6) W := v18
    replace hh := hJ.hp
    refine wl_cast (updL_K (eql_cons v19 (eql_cons e18 (eql_cons v17 (eql_cons v16 (eql_cons v15 (eql_cons v14 (eql_cons v13 (eql_cons v12 eql_nil))))))))) ?_
    dsimp only [updK]
    clear e18 hJ
    refine bdC [_,_] ?_
    refine s_callf (xform_calls s (sN (bN a + bN b)) _ hsz) FnIs.out rfl (by decide) ?_
    rintro e_ w21 ⟨rfl, hb_⟩
    refine ⟨_, rfl, ?_⟩
    replace hh := hh.ext hb_
    refine stC hh 0 [_,_] ?_
    intro ws hh
    replace hh : Hp _ (.blk _ _ [_, _] _ :: _) _ := hh
    refine wl_end (wc_ret (k_ret ?_))
    refine retc1 (by first | exact .inr rfl | exact .inl rfl) rfl (r_cell rfl (lv_agg (vs := [_, _]) TIs.out (hh.rd_blk_at (i := 0) (n := 2) rfl rfl) rfl) r_nil) ?_
    exact ⟨rfl, hh.below⟩
  · by_cases hle : bN b ≤ bN a
    · have e1 : iv s (sN (bN a - bN b)) = iv s a + iv t b := by unfold iv; rw [bN_sN]; cases s <;> cases t <;> simp at hst ⊢ <;> omega
      have hsz : (sN (bN a - bN b)).size ≤ 1000000000 := by rw [sN_size]; have := blen_mono (show bN a - bN b ≤ bN a by omega); omega
      rw [← e1]
      refine calls_vc (N := 49) (l := [.agg #[.bool s, .string a], .agg #[.bool t, .string b]]) Tryz.func134 rfl rfl (by simp) ?_
      refine sr ?_
      refine bxC hh [_,_] ?_
      intro b2 w2 hh
      refine bxC hh [_,_] ?_
      intro b3 w3 hh
      refine alC hh ?_
      intro b4 w4 hh
      refine wl_end (wc_seq (sr (faC ?_)))
      refine l1C hh 2 ?_
      refine faC ?_
      refine l1C hh 1 ?_
      first | refine s_eqb_t UIs.out rfl rfl (by first | rfl | assumption) (by decide) ?_ | refine s_eqb_f UIs.out rfl rfl (by first | rfl | assumption | decide) (by decide) ?_ | refine s_eql_bool UIs.out rfl rfl (by decide) ?_
      refine wl_end (cF (wc_skip (k_then (sr (faC ?_)))))
      refine l1C hh 2 ?_
      refine faC ?_
      refine l1C hh 1 ?_
      refine s_callf (rSub_calls a b _ (by omega) (by omega)) FnIs.out rfl (by decide) ?_
      rintro e_ w27 ⟨rfl, hb_⟩
      refine ⟨_, rfl, ?_⟩
      replace hh := hh.ext hb_
      rw [decide_eq_true hle]
      refine mT ?_
      refine exC ?_
      refine exC ?_
      refine aS (aB (wl_end (wc_seq (sr (mB (wl_end (cT (sr (faC ?_)))))))))
      refine l1C hh 2 ?_
      refine mS ?_
      refine bdC [_,_] ?_
      refine s_callf (xform_calls s (sN (bN a - bN b)) _ hsz) FnIs.out rfl (by decide) ?_
      rintro e_ w35 ⟨rfl, hb_⟩
      refine ⟨_, rfl, ?_⟩
      replace hh := hh.ext hb_
      refine stC hh 0 [_,_] ?_
      intro ws hh
      replace hh : Hp _ (.blk _ _ [_, _] _ :: _) _ := hh
      refine wl_end (wc_ret (k_ret ?_))
      refine retc1 (by first | exact .inr rfl | exact .inl rfl) rfl (r_cell rfl (lv_agg (vs := [_, _]) TIs.out (hh.rd_blk_at (i := 0) (n := 2) rfl rfl) rfl) r_nil) ?_
      exact ⟨rfl, hh.below⟩
    · have e1 : iv t (sN (bN b - bN a)) = iv s a + iv t b := by unfold iv; rw [bN_sN]; cases s <;> cases t <;> simp at hst ⊢ <;> omega
      have hsz : (sN (bN b - bN a)).size ≤ 1000000000 := by rw [sN_size]; have := blen_mono (show bN b - bN a ≤ bN b by omega); omega
      rw [← e1]
      refine calls_vc (N := 49) (l := [.agg #[.bool s, .string a], .agg #[.bool t, .string b]]) Tryz.func134 rfl rfl (by simp) ?_
      refine sr ?_
      refine bxC hh [_,_] ?_
      intro b2 w2 hh
      refine bxC hh [_,_] ?_
      intro b3 w3 hh
      refine alC hh ?_
      intro b4 w4 hh
      refine wl_end (wc_seq (sr (faC ?_)))
      refine l1C hh 2 ?_
      refine faC ?_
      refine l1C hh 1 ?_
      first | refine s_eqb_t UIs.out rfl rfl (by first | rfl | assumption) (by decide) ?_ | refine s_eqb_f UIs.out rfl rfl (by first | rfl | assumption | decide) (by decide) ?_ | refine s_eql_bool UIs.out rfl rfl (by decide) ?_
      refine wl_end (cF (wc_skip (k_then (sr (faC ?_)))))
      refine l1C hh 2 ?_
      refine faC ?_
      refine l1C hh 1 ?_
      refine s_callf (rSub_calls a b _ (by omega) (by omega)) FnIs.out rfl (by decide) ?_
      rintro e_ w27 ⟨rfl, hb_⟩
      refine ⟨_, rfl, ?_⟩
      replace hh := hh.ext hb_
      rw [decide_eq_false hle]
      refine mT ?_
      refine exC ?_
      refine exC ?_
      refine aS (aB (wl_end (wc_seq (sr (mB (wl_end (cF (wc_skip (k_then (sr (faC ?_)))))))))))
      refine l1C hh 1 ?_
      refine faC ?_
      refine l1C hh 2 ?_
      refine s_callf (rSub_calls b a _ (by omega) (by omega)) FnIs.out rfl (by decide) ?_
      rintro e_ w41 ⟨rfl, hb_⟩
      refine ⟨_, rfl, ?_⟩
      replace hh := hh.ext hb_
      refine mT ?_
      refine exC ?_
      refine exC ?_
      refine aS (wl_end (sr (faC ?_)))
      refine l1C hh 1 ?_
      refine mS ?_
      refine bdC [_,_] ?_
      refine s_callf (xform_calls t (sN (bN b - bN a)) _ hsz) FnIs.out rfl (by decide) ?_
      rintro e_ w48 ⟨rfl, hb_⟩
      refine ⟨_, rfl, ?_⟩
      replace hh := hh.ext hb_
      refine stC hh 0 [_,_] ?_
      intro ws hh
      replace hh : Hp _ (.blk _ _ [_, _] _ :: _) _ := hh
      refine wl_end (wc_ret ?_)
      refine retc1 (by first | exact .inr rfl | exact .inl rfl) rfl (r_cell rfl (lv_agg (vs := [_, _]) TIs.out (hh.rd_blk_at (i := 0) (n := 2) rfl rfl) rfl) r_nil) ?_
      exact ⟨rfl, hh.below⟩
theorem xtimes_calls (s t : Bool) (a b : ByteArray) (w : World) (ha : a.size ≤ 100000000) (hb : b.size ≤ 100000000) :
    Calls Tryz.prog 132 #[.agg #[.bool s, .string a], .agg #[.bool t, .string b]] w fun e w' => e = .returned (.agg #[.bool (iN (iv s a * iv t b)), .string (iM (iv s a * iv t b))]) ∧ Below w.heap.size w w' := by
  have hh := Hp.start w
  have hba := bN_blen a
  have hbb := bN_blen b
  have e0 : (iv s a * iv t b).natAbs = bN a * bN b := by rw [Int.natAbs_mul, iv_abs, iv_abs]
  have e1 : iM (iv s a * iv t b) = sN (bN a * bN b) := by rw [iM, e0]
  have e2 : iv (s != t) (sN (bN a * bN b)) = iv s a * iv t b := by rw [← e1, iv_times]
  have hsz : (sN (bN a * bN b)).size ≤ 1000000000 := by rw [sN_size]; have := blen_mul (bN a) (bN b); omega
  rw [← e2]
  refine calls_vc (N := 17) (l := [.agg #[.bool s, .string a], .agg #[.bool t, .string b]]) Tryz.func132 rfl rfl (by simp) ?_
  refine sr ?_
  refine bxC hh [_,_] ?_
  intro b2 w2 hh
  refine bxC hh [_,_] ?_
  intro b3 w3 hh
  refine alC hh ?_
  intro b4 w4 hh
  refine wl_end (wc_seq ?_)
  refine wc_drawn 10 [[(2, none)], [(5, some 0)], [(3, none)], [(7, some 2)], [(6, some 1), (8, some 3)], [(2, none)], [(10, some 5)], [(3, none)], [(12, some 7)], [(11, some 6), (13, some 8)]] [(9, 14), (8, 13), (7, 12), (6, 11), (5, 10), (4, 9), (3, 8), (2, 7), (1, 6), (0, 5)] hh mixed (by kernel_rfl) ?_
  refine dfa ?_
  refine dl1 2 ?_
  refine dfa ?_
  refine dl1 1 ?_
  first | refine dx_val (i := 4) (fun ρ1 w1 hj hR => x_neb_f UIs.out (show ρ1 6 = Value.bool _ from hR.1) (show ρ1 8 = Value.bool _ from hR.2.1) (by first | rfl | assumption)) ?_ | refine dx_val (i := 4) (fun ρ1 w1 hj hR => x_neb_t UIs.out (show ρ1 6 = Value.bool _ from hR.1) (show ρ1 8 = Value.bool _ from hR.2.1) (by first | assumption | decide)) ?_ | refine dx_val (i := 4) (fun ρ1 w1 hj hR => x_neq_bool UIs.out (show ρ1 6 = Value.bool _ from hR.1) (show ρ1 8 = Value.bool _ from hR.2.1)) ?_
  refine dfa ?_
  refine dl1 2 ?_
  refine dfa ?_
  refine dl1 1 ?_
  refine dC (fun _ hj => rMul_calls a b _ (by omega) (by omega)) ?_
  refine dx_nil ?_
  intro f W hJ hV
  have hb_1 := hJ.bl
  obtain ⟨v14, v13, v12, v11, v10, v9, v8, v7, v6, v5, _⟩ := hV
  replace hh := hJ.hp
  refine wl_cast (updL_K (eql_cons v14 (eql_cons v13 (eql_cons v12 (eql_cons v11 (eql_cons v10 (eql_cons v9 (eql_cons v8 (eql_cons v7 (eql_cons v6 (eql_cons v5 eql_nil))))))))))) ?_
  dsimp only [updK]
  clear hJ
  refine bdC [_,_] ?_
  refine s_callf (xform_calls (s != t) (sN (bN a * bN b)) _ hsz) FnIs.out rfl (by decide) ?_
  rintro e_ w16 ⟨rfl, hb_⟩
  refine ⟨_, rfl, ?_⟩
  replace hh := hh.ext hb_
  refine stC hh 0 [_,_] ?_
  intro ws hh
  replace hh : Hp _ (.blk _ _ [_, _] _ :: _) _ := hh
  refine wl_end (wc_ret ?_)
  refine retc1 (by first | exact .inr rfl | exact .inl rfl) rfl (r_cell rfl (lv_agg (vs := [_, _]) TIs.out (hh.rd_blk_at (i := 0) (n := 2) rfl rfl) rfl) r_nil) ?_
  exact ⟨rfl, hh.below⟩
theorem xshl_calls (s : Bool) (a : ByteArray) (k : Nat) (w : World) (ha : a.size ≤ 100000000) (hk : k ≤ 1000000000) :
    Calls Tryz.prog 135 #[.agg #[.bool s, .string a], .int .i64 (k : Int)] w fun e w' => e = .returned (.agg #[.bool (iN (iv s a * 2 ^ k)), .string (iM (iv s a * 2 ^ k))]) ∧ Below w.heap.size w w' := by
  have hh := Hp.start w
  have hba := bN_blen a
  have e2 : iv s (sN (bN a * 2 ^ k)) = iv s a * 2 ^ k := by unfold iv; rw [bN_sN]; split <;> simp [Int.neg_mul]
  have hsz : (sN (bN a * 2 ^ k)).size ≤ 1000000000 := by rw [sN_size]; have := blen_mul_pow (bN a) k; omega
  rw [← e2]
  refine calls_vc (N := 43) (l := [.agg #[.bool s, .string a], .int .i64 (k : Int)]) Tryz.func135 rfl rfl (by simp) ?_
  refine sr ?_
  refine bxC hh [_,_] ?_
  intro b2 w2 hh
  refine alC hh ?_
  intro b4 w4 hh
  refine wl_end (wc_seq (sr (mI ?_)))
  refine geqC (wl_end (cT (wc_seq ?_)))
  refine wc_drawn 6 [[(2, none)], [(12, some 0)], [(2, none)], [(14, some 2)], [(1, none)], [(15, some 3), (16, some 4)]] [(5, 17), (4, 16), (3, 15), (2, 14), (1, 13), (0, 12)] hh mixed (by kernel_rfl) ?_
  refine dfa ?_
  refine dl1 1 ?_
  refine dfa ?_
  refine dl1 1 ?_
  refine dmI ?_
  refine dC (fun _ hj => rShl_calls a k _ (by omega) (by omega)) ?_
  refine dx_nil ?_
  intro f W hJ hV
  have hb_2 := hJ.bl
  obtain ⟨v17, v16, v15, v14, v13, v12, _⟩ := hV
  replace hh := hJ.hp
  refine wl_cast (updL_K (eql_cons v17 (eql_cons v16 (eql_cons v15 (eql_cons v14 (eql_cons v13 (eql_cons v12 eql_nil))))))) ?_
  dsimp only [updK]
  clear hJ
  refine bdC [_,_] ?_
  refine s_callf (xform_calls s (sN (bN a * 2 ^ k)) _ hsz) FnIs.out rfl (by decide) ?_
  rintro e_ w19 ⟨rfl, hb_⟩
  refine ⟨_, rfl, ?_⟩
  replace hh := hh.ext hb_
  refine stC hh 0 [_,_] ?_
  intro ws hh
  replace hh : Hp _ (.blk _ _ [_, _] _ :: _) _ := hh
  refine wl_end (wc_ret (k_ret ?_))
  refine retc1 (by first | exact .inr rfl | exact .inl rfl) rfl (r_cell rfl (lv_agg (vs := [_, _]) TIs.out (hh.rd_blk_at (i := 0) (n := 2) rfl rfl) rfl) r_nil) ?_
  exact ⟨rfl, hh.below⟩
theorem div_unique (z : Int) (B : Nat) (q r : Int) (h : r + B * q = z) (h0 : 0 ≤ r) (h1 : r < B) : z / B = q ∧ z % B = r :=
  (Int.ediv_emod_unique (by omega)).2 ⟨h, h0, h1⟩
theorem xdiv_calls (s : Bool) (a b : ByteArray) (w : World) (ha : a.size ≤ 10000000) (hb : b.size ≤ 10000000) (hb0 : bN b ≠ 0) :
    Calls Tryz.prog 145 #[.agg #[.bool s, .string a], .agg #[.bool false, .string b]] w fun e w' => e = .returned (.tuple #[.agg #[.bool (iN (iv s a / bN b)), .string (iM (iv s a / bN b))], .agg #[.bool (iN (iv s a % bN b)), .string (iM (iv s a % bN b))], .bool true]) ∧ Below w.heap.size w w' := by
  have hh := Hp.start w
  have hba := bN_blen a
  have hbb := bN_blen b
  have hmod : bN a % bN b < bN b := Nat.mod_lt _ (by omega)
  have hdm : bN b * (bN a / bN b) + bN a % bN b = bN a := Nat.div_add_mod _ _
  have hdm' : (bN b : Int) * ((bN a / bN b : Nat) : Int) + ((bN a % bN b : Nat) : Int) = (bN a : Int) := by rw [← Int.natCast_mul, ← Int.natCast_add, hdm]
  have hqs : (sN (bN a / bN b)).size ≤ 10000000 := by rw [sN_size]; have := blen_mono (Nat.div_le_self (bN a) (bN b)); omega
  have hrs : (sN (bN a % bN b)).size ≤ 10000000 := by rw [sN_size]; have := blen_mono (show bN a % bN b ≤ bN b by omega); omega
  have hqz : ∀ u, (iM (iv u (sN (bN a / bN b)))).size ≤ 10000000 := fun u => by rw [iM_iv, bN_sN]; exact hqs
  have hrz : ∀ u, (iM (iv u (sN (bN a % bN b)))).size ≤ 10000000 := fun u => by rw [iM_iv, bN_sN]; exact hrs
  by_cases hneg : s = true ∧ bN a % bN b ≠ 0
  · obtain ⟨rfl, hne⟩ := hneg
    have e1 : iv true (sN (bN a / bN b)) = -((bN a / bN b : Nat) : Int) := by unfold iv; rw [bN_sN, if_pos rfl]
    have e2 : iv true (sN (bN a % bN b)) = -((bN a % bN b : Nat) : Int) := by unfold iv; rw [bN_sN, if_pos rfl]
    have hlt : (iv true (sN (bN a % bN b))).sign < 0 := by rw [e2, Int.sign_eq_neg_one_of_neg (by omega)]; omega
    have e3 : iv true a = -(bN a : Int) := by unfold iv; rw [if_pos rfl]
    obtain ⟨q1, q2⟩ := div_unique (iv true a) (bN b) (-((bN a / bN b : Nat) : Int) + -1) ((bN b : Int) - ((bN a % bN b : Nat) : Int)) (by rw [e3, ← hdm', Int.mul_add, Int.mul_neg]; omega) (by omega) (by omega)
    have e4 : iv false b = (bN b : Int) := by unfold iv; rw [if_neg (by simp)]
    have hp2 : (bN b : Int).sign = 1 := Int.sign_eq_one_of_pos (by omega)
    refine calls_vc (N := 57) (l := [.agg #[.bool true, .string a], .agg #[.bool false, .string b]]) Tryz.func145 rfl rfl (by simp) ?_
    refine sr ?_
    refine bxC hh [_,_] ?_
    intro b2 w2 hh
    refine bxC hh [_,_] ?_
    intro b3 w3 hh
    refine alC hh ?_
    intro b4 w4 hh
    refine alC hh ?_
    intro b5 w5 hh
    refine aB (wl_end (sr (faC ?_)))
    refine l1C hh 3 ?_
    refine faC ?_
    refine l1C hh 2 ?_
    refine s_callf (rDiv_calls a b _ (by omega) (by omega) hb0) FnIs.out rfl (by decide) ?_
    rintro e_ w18 ⟨rfl, hb_⟩
    refine ⟨_, rfl, ?_⟩
    replace hh := hh.ext hb_
    refine mT ?_
    refine exC ?_
    refine exC ?_
    refine exC ?_
    refine aS (aS (aB (wl_end (wc_seq (sr (mB ?_))))))
    refine notC ?_
    refine wl_end (cF (wc_skip (k_then (sr (faC ?_)))))
    refine l1C hh 3 ?_
    refine faC ?_
    refine l1C hh 2 ?_
    first | refine s_neb_f UIs.out rfl rfl (by first | rfl | assumption) (by decide) ?_ | refine s_neb_t UIs.out rfl rfl (by first | assumption | decide) (by decide) ?_ | refine s_neq_bool UIs.out rfl rfl (by decide) ?_
    refine mS ?_
    refine bdC [_,_] ?_
    refine s_callf (xform_calls true (sN (bN a / bN b)) _ (by omega)) FnIs.out rfl (by decide) ?_
    rintro e_ w33 ⟨rfl, hb_⟩
    refine ⟨_, rfl, ?_⟩
    replace hh := hh.ext hb_
    refine alC hh ?_
    intro b10 w10 hh
    refine stC hh 0 [_,_] ?_
    intro ws hh
    replace hh : Hp _ (.blk _ _ [_, _] _ :: _) _ := hh
    refine wl_end (sr (faC ?_))
    refine l1C hh 4 ?_
    refine mS ?_
    refine bdC [_,_] ?_
    refine s_callf (xform_calls true (sN (bN a % bN b)) _ (by omega)) FnIs.out rfl (by decide) ?_
    rintro e_ w38 ⟨rfl, hb_⟩
    refine ⟨_, rfl, ?_⟩
    replace hh := hh.ext hb_
    refine alC hh ?_
    intro b11 w11 hh
    refine stC hh 0 [_,_] ?_
    intro ws hh
    replace hh : Hp _ (.blk _ _ [_, _] _ :: _) _ := hh
    refine wl_end (wc_seq (sr ?_))
    refine lgC hh 0 [_,_] ?_
    refine s_callf (xsign_calls (iN (iv true (sN (bN a % bN b)))) (iM (iv true (sN (bN a % bN b)))) _ (by have := hrz true; omega)) FnIs.out rfl (by decide) ?_
    rintro e_ w40 ⟨rfl, hb_⟩
    refine ⟨_, rfl, ?_⟩
    replace hh := hh.ext hb_
    rw [iv_of]
    refine lssC (wl_end (cT (sr ?_)))
    refine lgC hh 0 [_,_] (faC ?_)
    refine l1C hh 4 ?_
    refine bdC [_,_] ?_
    refine s_callf (xplus_calls (iN (iv true (sN (bN a % bN b)))) false (iM (iv true (sN (bN a % bN b)))) b _ (by have := hrz true; omega) (by omega)) FnIs.out rfl (by decide) ?_
    rintro e_ w46 ⟨rfl, hb_⟩
    refine ⟨_, rfl, ?_⟩
    replace hh := hh.ext hb_
    rw [iv_of, e2, e4, show -((bN a % bN b : Nat) : Int) + (bN b : Int) = (bN b : Int) - ((bN a % bN b : Nat) : Int) by omega, ← q2]
    refine stC hh 0 [_,_] ?_
    intro ws hh
    replace hh : Hp _ (.blk _ _ [_, _] _ :: _) _ := hh
    refine wl_end (sr ?_)
    refine s_callf (xOf_calls (-1) _ (by omega) (by omega)) FnIs.out rfl (by decide) ?_
    rintro e_ w47 ⟨rfl, hb_⟩
    refine ⟨_, rfl, ?_⟩
    replace hh := hh.ext hb_
    refine alC hh ?_
    intro b12 w12 hh
    refine stC hh 0 [_,_] ?_
    intro ws hh
    replace hh : Hp _ (.blk _ _ [_, _] _ :: _) _ := hh
    refine wl_end (wc_seq (sr ?_))
    refine lgC hh 5 [_,_] ?_
    refine s_callf (xsign_calls false b _ (by omega)) FnIs.out rfl (by decide) ?_
    rintro e_ w49 ⟨rfl, hb_⟩
    refine ⟨_, rfl, ?_⟩
    replace hh := hh.ext hb_
    rw [e4, hp2]
    refine lssC (wl_end (cF (wc_skip (k_then (wc_region ?_)))))
    refine lgC hh 2 [_,_] ?_
    refine lgC hh 0 [_,_] ?_
    refine s_callf (xplus_calls (iN (iv true (sN (bN a / bN b)))) (iN (-1)) (iM (iv true (sN (bN a / bN b)))) (iM (-1)) _ (by have := hqz true; omega) (by decide)) FnIs.out rfl (by decide) ?_
    rintro e_ w54 ⟨rfl, hb_⟩
    refine ⟨_, rfl, ?_⟩
    replace hh := hh.ext hb_
    rw [iv_of, iv_of, e1, ← q1]
    refine stC hh 2 [_,_] ?_
    intro ws hh
    replace hh : Hp _ (_ :: _ :: .blk _ _ [_, _] _ :: _) _ := hh
    refine wl_end (wc_seq ?_)
    refine wc_tree hh mixed fun w_ hj_ => ?_
    replace hh := hj_.hp
    clear hj_
    refine wa_two (i := 0) (i2 := 1) (by kernel_rfl) rfl rfl ?_ ?_
    · refine lgC hh 2 [_,_] ?_
      refine wl_wa ?_
      refine wa_two (i := 1) (i2 := 2) (by kernel_rfl) rfl rfl ?_ ?_
      · refine lgC hh 1 [_,_] ?_
        refine wl_wa ?_
        refine wa_one (i := 2) (by kernel_rfl) rfl ?_
        refine stC hh 4 [_,_] ?_
        intro ws hh
        replace hh : Hp _ (_ :: _ :: _ :: _ :: .blk _ _ [_, _] _ :: _) _ := hh
        refine wl_wa ?_
        refine wa_tail 3 (by decide) (by kernel_rfl) (by decide) (by kernel_rfl) (by kernel_rfl) ?_
        refine stC hh 3 [_,_] ?_
        intro ws hh
        replace hh : Hp _ (_ :: _ :: _ :: .blk _ _ [_, _] _ :: _) _ := hh
        refine aB (wl_end (wc_ret ?_))
        refine retc3 (by first | exact .inr rfl | exact .inl rfl) rfl (r_cell rfl (lv_agg (vs := [_, _]) TIs.out (hh.rd_blk_at (i := 4) (n := 2) rfl rfl) rfl) (r_cell rfl (lv_agg (vs := [_, _]) TIs.out (hh.rd_blk_at (i := 3) (n := 2) rfl rfl) rfl) (r_tmp (v_bool rfl) r_nil))) ?_
        exact ⟨rfl, hh.below⟩
      · refine stC hh 4 [_,_] ?_
        intro ws hh
        replace hh : Hp _ (_ :: _ :: _ :: _ :: .blk _ _ [_, _] _ :: _) _ := hh
        refine wl_wa ?_
        refine wa_one (i := 1) (by kernel_rfl) rfl ?_
        refine lgC hh 1 [_,_] ?_
        refine wl_wa ?_
        refine wa_tail 3 (by decide) (by kernel_rfl) (by decide) (by kernel_rfl) (by kernel_rfl) ?_
        refine stC hh 3 [_,_] ?_
        intro ws hh
        replace hh : Hp _ (_ :: _ :: _ :: .blk _ _ [_, _] _ :: _) _ := hh
        refine aB (wl_end (wc_ret ?_))
        refine retc3 (by first | exact .inr rfl | exact .inl rfl) rfl (r_cell rfl (lv_agg (vs := [_, _]) TIs.out (hh.rd_blk_at (i := 4) (n := 2) rfl rfl) rfl) (r_cell rfl (lv_agg (vs := [_, _]) TIs.out (hh.rd_blk_at (i := 3) (n := 2) rfl rfl) rfl) (r_tmp (v_bool rfl) r_nil))) ?_
        exact ⟨rfl, hh.below⟩
    · refine lgC hh 1 [_,_] ?_
      refine wl_wa ?_
      refine wa_one (i := 0) (by kernel_rfl) rfl ?_
      refine lgC hh 2 [_,_] ?_
      refine wl_wa ?_
      refine wa_one (i := 2) (by kernel_rfl) rfl ?_
      refine stC hh 4 [_,_] ?_
      intro ws hh
      replace hh : Hp _ (_ :: _ :: _ :: _ :: .blk _ _ [_, _] _ :: _) _ := hh
      refine wl_wa ?_
      refine wa_tail 3 (by decide) (by kernel_rfl) (by decide) (by kernel_rfl) (by kernel_rfl) ?_
      refine stC hh 3 [_,_] ?_
      intro ws hh
      replace hh : Hp _ (_ :: _ :: _ :: .blk _ _ [_, _] _ :: _) _ := hh
      refine aB (wl_end (wc_ret ?_))
      refine retc3 (by first | exact .inr rfl | exact .inl rfl) rfl (r_cell rfl (lv_agg (vs := [_, _]) TIs.out (hh.rd_blk_at (i := 4) (n := 2) rfl rfl) rfl) (r_cell rfl (lv_agg (vs := [_, _]) TIs.out (hh.rd_blk_at (i := 3) (n := 2) rfl rfl) rfl) (r_tmp (v_bool rfl) r_nil))) ?_
      exact ⟨rfl, hh.below⟩
  · have e4 : iv s a / bN b = iv s (sN (bN a / bN b)) ∧ iv s a % bN b = iv s (sN (bN a % bN b)) := by
      cases s with
      | false =>
        have f0 : ∀ x, iv false x = (bN x : Int) := fun x => by unfold iv; rw [if_neg (by simp)]
        rw [f0, f0, f0, bN_sN, bN_sN]
        exact div_unique _ _ _ _ (by omega) (by omega) (by omega)
      | true =>
        have r0 : bN a % bN b = 0 := by
          rcases Nat.eq_zero_or_pos (bN a % bN b) with h | h
          · exact h
          · exact absurd ⟨rfl, by omega⟩ hneg
        have f0 : ∀ x, iv true x = -(bN x : Int) := fun x => by unfold iv; rw [if_pos rfl]
        rw [f0, f0, f0, bN_sN, bN_sN, r0]
        rw [r0] at hdm'
        exact div_unique _ _ _ _ (by rw [Int.mul_neg]; omega) (by omega) (by omega)
    have h5 : ¬ (iv s (sN (bN a % bN b))).sign < 0 := by
      have h6 : 0 ≤ iv s (sN (bN a % bN b)) := by rw [← e4.2]; exact Int.emod_nonneg _ (by omega)
      have := Int.sign_nonneg_iff.2 h6
      omega
    rw [e4.1, e4.2]
    cases s with
    | false =>
      refine calls_vc (N := 57) (l := [.agg #[.bool false, .string a], .agg #[.bool false, .string b]]) Tryz.func145 rfl rfl (by simp) ?_
      refine sr ?_
      refine bxC hh [_,_] ?_
      intro b2 w2 hh
      refine bxC hh [_,_] ?_
      intro b3 w3 hh
      refine alC hh ?_
      intro b4 w4 hh
      refine alC hh ?_
      intro b5 w5 hh
      refine aB (wl_end (sr (faC ?_)))
      refine l1C hh 3 ?_
      refine faC ?_
      refine l1C hh 2 ?_
      refine s_callf (rDiv_calls a b _ (by omega) (by omega) hb0) FnIs.out rfl (by decide) ?_
      rintro e_ w18 ⟨rfl, hb_⟩
      refine ⟨_, rfl, ?_⟩
      replace hh := hh.ext hb_
      refine mT ?_
      refine exC ?_
      refine exC ?_
      refine exC ?_
      refine aS (aS (aB (wl_end (wc_seq (sr (mB ?_))))))
      refine notC ?_
      refine wl_end (cF (wc_skip (k_then (sr (faC ?_)))))
      refine l1C hh 3 ?_
      refine faC ?_
      refine l1C hh 2 ?_
      first | refine s_neb_f UIs.out rfl rfl (by first | rfl | assumption) (by decide) ?_ | refine s_neb_t UIs.out rfl rfl (by first | assumption | decide) (by decide) ?_ | refine s_neq_bool UIs.out rfl rfl (by decide) ?_
      refine mS ?_
      refine bdC [_,_] ?_
      refine s_callf (xform_calls false (sN (bN a / bN b)) _ (by omega)) FnIs.out rfl (by decide) ?_
      rintro e_ w33 ⟨rfl, hb_⟩
      refine ⟨_, rfl, ?_⟩
      replace hh := hh.ext hb_
      refine alC hh ?_
      intro b10 w10 hh
      refine stC hh 0 [_,_] ?_
      intro ws hh
      replace hh : Hp _ (.blk _ _ [_, _] _ :: _) _ := hh
      refine wl_end (sr (faC ?_))
      refine l1C hh 4 ?_
      refine mS ?_
      refine bdC [_,_] ?_
      refine s_callf (xform_calls false (sN (bN a % bN b)) _ (by omega)) FnIs.out rfl (by decide) ?_
      rintro e_ w38 ⟨rfl, hb_⟩
      refine ⟨_, rfl, ?_⟩
      replace hh := hh.ext hb_
      refine alC hh ?_
      intro b11 w11 hh
      refine stC hh 0 [_,_] ?_
      intro ws hh
      replace hh : Hp _ (.blk _ _ [_, _] _ :: _) _ := hh
      refine wl_end (wc_seq (sr ?_))
      refine lgC hh 0 [_,_] ?_
      refine s_callf (xsign_calls (iN (iv false (sN (bN a % bN b)))) (iM (iv false (sN (bN a % bN b)))) _ (by have := hrz false; omega)) FnIs.out rfl (by decide) ?_
      rintro e_ w40 ⟨rfl, hb_⟩
      refine ⟨_, rfl, ?_⟩
      replace hh := hh.ext hb_
      rw [iv_of]
      refine lssC (wl_end (cF (wc_skip (k_then (wc_seq ?_)))))
      refine wc_tree hh mixed fun w_ hj_ => ?_
      replace hh := hj_.hp
      clear hj_
      refine wa_two (i := 0) (i2 := 1) (by kernel_rfl) rfl rfl ?_ ?_
      · refine lgC hh 1 [_,_] ?_
        refine wl_wa ?_
        refine wa_two (i := 1) (i2 := 2) (by kernel_rfl) rfl rfl ?_ ?_
        · refine lgC hh 0 [_,_] ?_
          refine wl_wa ?_
          refine wa_one (i := 2) (by kernel_rfl) rfl ?_
          refine stC hh 3 [_,_] ?_
          intro ws hh
          replace hh : Hp _ (_ :: _ :: _ :: .blk _ _ [_, _] _ :: _) _ := hh
          refine wl_wa ?_
          refine wa_tail 3 (by decide) (by kernel_rfl) (by decide) (by kernel_rfl) (by kernel_rfl) ?_
          refine stC hh 2 [_,_] ?_
          intro ws hh
          replace hh : Hp _ (_ :: _ :: .blk _ _ [_, _] _ :: _) _ := hh
          refine aB (wl_end (wc_ret ?_))
          refine retc3 (by first | exact .inr rfl | exact .inl rfl) rfl (r_cell rfl (lv_agg (vs := [_, _]) TIs.out (hh.rd_blk_at (i := 3) (n := 2) rfl rfl) rfl) (r_cell rfl (lv_agg (vs := [_, _]) TIs.out (hh.rd_blk_at (i := 2) (n := 2) rfl rfl) rfl) (r_tmp (v_bool rfl) r_nil))) ?_
          exact ⟨rfl, hh.below⟩
        · refine stC hh 3 [_,_] ?_
          intro ws hh
          replace hh : Hp _ (_ :: _ :: _ :: .blk _ _ [_, _] _ :: _) _ := hh
          refine wl_wa ?_
          refine wa_one (i := 1) (by kernel_rfl) rfl ?_
          refine lgC hh 0 [_,_] ?_
          refine wl_wa ?_
          refine wa_tail 3 (by decide) (by kernel_rfl) (by decide) (by kernel_rfl) (by kernel_rfl) ?_
          refine stC hh 2 [_,_] ?_
          intro ws hh
          replace hh : Hp _ (_ :: _ :: .blk _ _ [_, _] _ :: _) _ := hh
          refine aB (wl_end (wc_ret ?_))
          refine retc3 (by first | exact .inr rfl | exact .inl rfl) rfl (r_cell rfl (lv_agg (vs := [_, _]) TIs.out (hh.rd_blk_at (i := 3) (n := 2) rfl rfl) rfl) (r_cell rfl (lv_agg (vs := [_, _]) TIs.out (hh.rd_blk_at (i := 2) (n := 2) rfl rfl) rfl) (r_tmp (v_bool rfl) r_nil))) ?_
          exact ⟨rfl, hh.below⟩
      · refine lgC hh 0 [_,_] ?_
        refine wl_wa ?_
        refine wa_one (i := 0) (by kernel_rfl) rfl ?_
        refine lgC hh 1 [_,_] ?_
        refine wl_wa ?_
        refine wa_one (i := 2) (by kernel_rfl) rfl ?_
        refine stC hh 3 [_,_] ?_
        intro ws hh
        replace hh : Hp _ (_ :: _ :: _ :: .blk _ _ [_, _] _ :: _) _ := hh
        refine wl_wa ?_
        refine wa_tail 3 (by decide) (by kernel_rfl) (by decide) (by kernel_rfl) (by kernel_rfl) ?_
        refine stC hh 2 [_,_] ?_
        intro ws hh
        replace hh : Hp _ (_ :: _ :: .blk _ _ [_, _] _ :: _) _ := hh
        refine aB (wl_end (wc_ret ?_))
        refine retc3 (by first | exact .inr rfl | exact .inl rfl) rfl (r_cell rfl (lv_agg (vs := [_, _]) TIs.out (hh.rd_blk_at (i := 3) (n := 2) rfl rfl) rfl) (r_cell rfl (lv_agg (vs := [_, _]) TIs.out (hh.rd_blk_at (i := 2) (n := 2) rfl rfl) rfl) (r_tmp (v_bool rfl) r_nil))) ?_
        exact ⟨rfl, hh.below⟩
    | true =>
      refine calls_vc (N := 57) (l := [.agg #[.bool true, .string a], .agg #[.bool false, .string b]]) Tryz.func145 rfl rfl (by simp) ?_
      refine sr ?_
      refine bxC hh [_,_] ?_
      intro b2 w2 hh
      refine bxC hh [_,_] ?_
      intro b3 w3 hh
      refine alC hh ?_
      intro b4 w4 hh
      refine alC hh ?_
      intro b5 w5 hh
      refine aB (wl_end (sr (faC ?_)))
      refine l1C hh 3 ?_
      refine faC ?_
      refine l1C hh 2 ?_
      refine s_callf (rDiv_calls a b _ (by omega) (by omega) hb0) FnIs.out rfl (by decide) ?_
      rintro e_ w18 ⟨rfl, hb_⟩
      refine ⟨_, rfl, ?_⟩
      replace hh := hh.ext hb_
      refine mT ?_
      refine exC ?_
      refine exC ?_
      refine exC ?_
      refine aS (aS (aB (wl_end (wc_seq (sr (mB ?_))))))
      refine notC ?_
      refine wl_end (cF (wc_skip (k_then (sr (faC ?_)))))
      refine l1C hh 3 ?_
      refine faC ?_
      refine l1C hh 2 ?_
      first | refine s_neb_f UIs.out rfl rfl (by first | rfl | assumption) (by decide) ?_ | refine s_neb_t UIs.out rfl rfl (by first | assumption | decide) (by decide) ?_ | refine s_neq_bool UIs.out rfl rfl (by decide) ?_
      refine mS ?_
      refine bdC [_,_] ?_
      refine s_callf (xform_calls true (sN (bN a / bN b)) _ (by omega)) FnIs.out rfl (by decide) ?_
      rintro e_ w33 ⟨rfl, hb_⟩
      refine ⟨_, rfl, ?_⟩
      replace hh := hh.ext hb_
      refine alC hh ?_
      intro b10 w10 hh
      refine stC hh 0 [_,_] ?_
      intro ws hh
      replace hh : Hp _ (.blk _ _ [_, _] _ :: _) _ := hh
      refine wl_end (sr (faC ?_))
      refine l1C hh 4 ?_
      refine mS ?_
      refine bdC [_,_] ?_
      refine s_callf (xform_calls true (sN (bN a % bN b)) _ (by omega)) FnIs.out rfl (by decide) ?_
      rintro e_ w38 ⟨rfl, hb_⟩
      refine ⟨_, rfl, ?_⟩
      replace hh := hh.ext hb_
      refine alC hh ?_
      intro b11 w11 hh
      refine stC hh 0 [_,_] ?_
      intro ws hh
      replace hh : Hp _ (.blk _ _ [_, _] _ :: _) _ := hh
      refine wl_end (wc_seq (sr ?_))
      refine lgC hh 0 [_,_] ?_
      refine s_callf (xsign_calls (iN (iv true (sN (bN a % bN b)))) (iM (iv true (sN (bN a % bN b)))) _ (by have := hrz true; omega)) FnIs.out rfl (by decide) ?_
      rintro e_ w40 ⟨rfl, hb_⟩
      refine ⟨_, rfl, ?_⟩
      replace hh := hh.ext hb_
      rw [iv_of]
      refine lssC (wl_end (cF (wc_skip (k_then (wc_seq ?_)))))
      refine wc_tree hh mixed fun w_ hj_ => ?_
      replace hh := hj_.hp
      clear hj_
      refine wa_two (i := 0) (i2 := 1) (by kernel_rfl) rfl rfl ?_ ?_
      · refine lgC hh 1 [_,_] ?_
        refine wl_wa ?_
        refine wa_two (i := 1) (i2 := 2) (by kernel_rfl) rfl rfl ?_ ?_
        · refine lgC hh 0 [_,_] ?_
          refine wl_wa ?_
          refine wa_one (i := 2) (by kernel_rfl) rfl ?_
          refine stC hh 3 [_,_] ?_
          intro ws hh
          replace hh : Hp _ (_ :: _ :: _ :: .blk _ _ [_, _] _ :: _) _ := hh
          refine wl_wa ?_
          refine wa_tail 3 (by decide) (by kernel_rfl) (by decide) (by kernel_rfl) (by kernel_rfl) ?_
          refine stC hh 2 [_,_] ?_
          intro ws hh
          replace hh : Hp _ (_ :: _ :: .blk _ _ [_, _] _ :: _) _ := hh
          refine aB (wl_end (wc_ret ?_))
          refine retc3 (by first | exact .inr rfl | exact .inl rfl) rfl (r_cell rfl (lv_agg (vs := [_, _]) TIs.out (hh.rd_blk_at (i := 3) (n := 2) rfl rfl) rfl) (r_cell rfl (lv_agg (vs := [_, _]) TIs.out (hh.rd_blk_at (i := 2) (n := 2) rfl rfl) rfl) (r_tmp (v_bool rfl) r_nil))) ?_
          exact ⟨rfl, hh.below⟩
        · refine stC hh 3 [_,_] ?_
          intro ws hh
          replace hh : Hp _ (_ :: _ :: _ :: .blk _ _ [_, _] _ :: _) _ := hh
          refine wl_wa ?_
          refine wa_one (i := 1) (by kernel_rfl) rfl ?_
          refine lgC hh 0 [_,_] ?_
          refine wl_wa ?_
          refine wa_tail 3 (by decide) (by kernel_rfl) (by decide) (by kernel_rfl) (by kernel_rfl) ?_
          refine stC hh 2 [_,_] ?_
          intro ws hh
          replace hh : Hp _ (_ :: _ :: .blk _ _ [_, _] _ :: _) _ := hh
          refine aB (wl_end (wc_ret ?_))
          refine retc3 (by first | exact .inr rfl | exact .inl rfl) rfl (r_cell rfl (lv_agg (vs := [_, _]) TIs.out (hh.rd_blk_at (i := 3) (n := 2) rfl rfl) rfl) (r_cell rfl (lv_agg (vs := [_, _]) TIs.out (hh.rd_blk_at (i := 2) (n := 2) rfl rfl) rfl) (r_tmp (v_bool rfl) r_nil))) ?_
          exact ⟨rfl, hh.below⟩
      · refine lgC hh 0 [_,_] ?_
        refine wl_wa ?_
        refine wa_one (i := 0) (by kernel_rfl) rfl ?_
        refine lgC hh 1 [_,_] ?_
        refine wl_wa ?_
        refine wa_one (i := 2) (by kernel_rfl) rfl ?_
        refine stC hh 3 [_,_] ?_
        intro ws hh
        replace hh : Hp _ (_ :: _ :: _ :: .blk _ _ [_, _] _ :: _) _ := hh
        refine wl_wa ?_
        refine wa_tail 3 (by decide) (by kernel_rfl) (by decide) (by kernel_rfl) (by kernel_rfl) ?_
        refine stC hh 2 [_,_] ?_
        intro ws hh
        replace hh : Hp _ (_ :: _ :: .blk _ _ [_, _] _ :: _) _ := hh
        refine aB (wl_end (wc_ret ?_))
        refine retc3 (by first | exact .inr rfl | exact .inl rfl) rfl (r_cell rfl (lv_agg (vs := [_, _]) TIs.out (hh.rd_blk_at (i := 3) (n := 2) rfl rfl) rfl) (r_cell rfl (lv_agg (vs := [_, _]) TIs.out (hh.rd_blk_at (i := 2) (n := 2) rfl rfl) rfl) (r_tmp (v_bool rfl) r_nil))) ?_
        exact ⟨rfl, hh.below⟩
end Go.Proofs.YthmmofllajkejaaGreatDoor
