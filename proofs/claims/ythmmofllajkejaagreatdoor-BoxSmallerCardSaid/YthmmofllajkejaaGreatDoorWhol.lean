/- Several texts in one: Whole, WholeB, WholeC, Dy. -/
import Derived.Test.YthmmofllajkejaaGreatDoorShD
import Derived.Test.YthmmofllajkejaaGreatDoorNats
import Derived.Test.YthmmofllajkejaaGreatDoorDraws
/- The walks through the program's whole numbers (whole). -/
namespace Go.Proofs.YthmmofllajkejaaGreatDoor
open Go.RowKit
-- umode
/-- A whole number's size and sign, and the one form of it. -/
def iv (s : Bool) (m : ByteArray) : Int := if s then -(bN m : Int) else bN m
def iN (z : Int) : Bool := decide (z < 0)
def iM (z : Int) : ByteArray := sN z.natAbs
theorem iv_of (z : Int) : iv (iN z) (iM z) = z := by
  unfold iv iN iM
  rw [bN_sN]
  by_cases h : z < 0
  · rw [decide_eq_true h, if_pos rfl]; omega
  · rw [decide_eq_false h, if_neg (by simp)]; omega
theorem iM_zero {z : Int} : iM z = ByteArray.mk #[] ↔ z = 0 := by
  rw [iM, ← sN_zero]
  constructor
  · intro h; have := sN_inj h; omega
  · intro h; rw [h]; rfl
theorem iv_abs (s : Bool) (m : ByteArray) : (iv s m).natAbs = bN m := by
  unfold iv; split <;> omega
theorem iM_iv (s : Bool) (m : ByteArray) : iM (iv s m) = sN (bN m) := by rw [iM, iv_abs]
theorem iN_iv (s : Bool) (m : ByteArray) : iN (iv s m) = (s && decide (bN m ≠ 0)) := by
  unfold iN iv
  rw [Bool.eq_iff_iff, Bool.and_eq_true, decide_eq_true_eq, decide_eq_true_eq]
  cases s
  · simp only [Bool.false_eq_true, if_false, false_and, iff_false]; omega
  · simp only [if_true, true_and]; omega
theorem wof_calls (s : Bool) (m : ByteArray) (w : World) :
    Calls Tryz.prog 117 #[.agg #[.bool s, .string m]] w fun e w' => e = .returned (.agg #[.string m, .bool s]) ∧ Below w.heap.size w w' := by
  have hh := Hp.start w
  refine calls_vc (N := 8) (l := [.agg #[.bool s, .string m]]) Tryz.func117 rfl rfl (by simp) ?_
  refine sr ?_
  refine bxC hh [_,_] ?_
  intro b1 w1 hh
  refine alC hh ?_
  intro b2 w2 hh
  refine wl_end (sr (faC ?_))
  refine l1C hh 1 ?_
  refine faC ?_
  refine l1C hh 1 ?_
  refine bdC [_,_] ?_
  refine stC hh 0 [_,_] ?_
  intro ws hh
  replace hh : Hp _ (.blk _ _ [_, _] _ :: _) _ := hh
  refine wl_end (wc_ret ?_)
  refine retc1 (by first | exact .inr rfl | exact .inl rfl) rfl (r_cell rfl (lv_agg (vs := [_, _]) TIs.out (hh.rd_blk_at (i := 0) (n := 2) rfl rfl) rfl) r_nil) ?_
  exact ⟨rfl, hh.below⟩
theorem wmade_calls (s : Bool) (m : ByteArray) (w : World) :
    Calls Tryz.prog 118 #[.agg #[.string m, .bool s]] w fun e w' => e = .returned (.agg #[.bool (iN (iv s m)), .string (iM (iv s m))]) ∧ Below w.heap.size w w' := by
  have hh := Hp.start w
  rw [iN_iv, iM_iv]
  cases s with
  | false =>
    refine calls_vc (N := 15) (l := [.agg #[.string m, .bool false]]) Tryz.func118 rfl rfl (by simp) ?_
    refine sr ?_
    refine bxC hh [_,_] ?_
    intro b1 w1 hh
    refine alC hh ?_
    intro b2 w2 hh
    refine wl_end (sr (faC ?_))
    refine l1C hh 1 ?_
    refine s_callf (natTrim_calls m _) FnIs.out rfl (by decide) ?_
    rintro e_ w6 ⟨rfl, hb_⟩
    refine ⟨_, rfl, ?_⟩
    replace hh := hh.ext hb_
    refine aS (wl_end (sr (faC ?_)))
    refine l1C hh 1 ?_
    refine mB ?_
    first | refine gS ?_ | (refine gT ?_; refine mS ?_) | refine gV ?_
    first | refine gS ?_ | (refine gT ?_; (first | refine s_neq_str_f rfl rfl (by first | rfl | assumption | decide) (by decide) ?_ | refine s_neq_str_t rfl rfl (by first | assumption | decide) (by decide) ?_)) | refine gV ?_
    first | refine pkT ?_ | refine pkF ?_
    refine mS ?_
    refine bdC [_,_] ?_
    refine stC hh 0 [_,_] ?_
    intro ws hh
    replace hh : Hp _ (.blk _ _ [_, _] _ :: _) _ := hh
    refine wl_end (wc_ret ?_)
    refine retc1 (by first | exact .inr rfl | exact .inl rfl) rfl (r_cell rfl (lv_agg (vs := [_, _]) TIs.out (hh.rd_blk_at (i := 0) (n := 2) rfl rfl) rfl) r_nil) ?_
    exact ⟨rfl, hh.below⟩
  | true =>
    by_cases h0 : sN (bN m) = ByteArray.mk #[]
    · refine calls_vc (N := 15) (l := [.agg #[.string m, .bool true]]) Tryz.func118 rfl rfl (by simp) ?_
      refine sr ?_
      refine bxC hh [_,_] ?_
      intro b1 w1 hh
      refine alC hh ?_
      intro b2 w2 hh
      refine wl_end (sr (faC ?_))
      refine l1C hh 1 ?_
      refine s_callf (natTrim_calls m _) FnIs.out rfl (by decide) ?_
      rintro e_ w6 ⟨rfl, hb_⟩
      refine ⟨_, rfl, ?_⟩
      replace hh := hh.ext hb_
      refine aS (wl_end (sr (faC ?_)))
      refine l1C hh 1 ?_
      refine mB ?_
      first | refine gS ?_ | (refine gT ?_; refine mS ?_) | refine gV ?_
      first | refine gS ?_ | (refine gT ?_; (first | refine s_neq_str_f rfl rfl (by first | rfl | assumption | decide) (by decide) ?_ | refine s_neq_str_t rfl rfl (by first | assumption | decide) (by decide) ?_)) | refine gV ?_
      first | refine pkT ?_ | refine pkF ?_
      refine mS ?_
      refine bdC [_,_] ?_
      refine stC hh 0 [_,_] ?_
      intro ws hh
      replace hh : Hp _ (.blk _ _ [_, _] _ :: _) _ := hh
      refine wl_end (wc_ret ?_)
      refine retc1 (by first | exact .inr rfl | exact .inl rfl) rfl (r_cell rfl (lv_agg (vs := [_, _]) TIs.out (hh.rd_blk_at (i := 0) (n := 2) rfl rfl) rfl) r_nil) ?_
      have h1 : bN m = 0 := by rw [← sN_zero] at h0; exact sN_inj h0
      rw [decide_eq_false (by omega)]
      exact ⟨rfl, hh.below⟩
    · refine calls_vc (N := 15) (l := [.agg #[.string m, .bool true]]) Tryz.func118 rfl rfl (by simp) ?_
      refine sr ?_
      refine bxC hh [_,_] ?_
      intro b1 w1 hh
      refine alC hh ?_
      intro b2 w2 hh
      refine wl_end (sr (faC ?_))
      refine l1C hh 1 ?_
      refine s_callf (natTrim_calls m _) FnIs.out rfl (by decide) ?_
      rintro e_ w6 ⟨rfl, hb_⟩
      refine ⟨_, rfl, ?_⟩
      replace hh := hh.ext hb_
      refine aS (wl_end (sr (faC ?_)))
      refine l1C hh 1 ?_
      refine mB ?_
      first | refine gS ?_ | (refine gT ?_; refine mS ?_) | refine gV ?_
      first | refine gS ?_ | (refine gT ?_; (first | refine s_neq_str_f rfl rfl (by first | rfl | assumption | decide) (by decide) ?_ | refine s_neq_str_t rfl rfl (by first | assumption | decide) (by decide) ?_)) | refine gV ?_
      first | refine pkT ?_ | refine pkF ?_
      refine mS ?_
      refine bdC [_,_] ?_
      refine stC hh 0 [_,_] ?_
      intro ws hh
      replace hh : Hp _ (.blk _ _ [_, _] _ :: _) _ := hh
      refine wl_end (wc_ret ?_)
      refine retc1 (by first | exact .inr rfl | exact .inl rfl) rfl (r_cell rfl (lv_agg (vs := [_, _]) TIs.out (hh.rd_blk_at (i := 0) (n := 2) rfl rfl) rfl) r_nil) ?_
      have h1 : bN m ≠ 0 := fun h => h0 (by rw [h, sN_zero])
      rw [decide_eq_true h1]
      exact ⟨rfl, hh.below⟩
/-- A whole number, and its pair's value. -/
def numV (s : Bool) (m : ByteArray) : Value := .agg #[.string m, .bool s]
theorem wcmp_calls (a b : ByteArray) (w : World) (ha : a.size ≤ 1000000000) (hb : b.size ≤ 1000000000) :
    Calls Tryz.prog 147 #[.string a, .string b] w fun e w' => e = .returned (.int .i64 (cmpN (bN a) (bN b))) ∧ Below w.heap.size w w' := by
  have hh := Hp.start w
  refine calls_vc (N := 8) (l := [.string a, .string b]) Tryz.func147 rfl rfl (by simp) ?_
  refine sr (aI (wl_end (sr (mS (mS ?_)))))
  refine s_callf (natCmp_calls a b _ ha hb) FnIs.out rfl (by decide) ?_
  rintro e_ w7 ⟨rfl, hb_⟩
  refine ⟨_, rfl, ?_⟩
  replace hh := hh.ext hb_
  refine aI (wl_end (wc_ret ?_))
  refine ret1 (by first | exact .inr rfl | exact .inl rfl) rfl (v_int rfl) ?_
  exact ⟨rfl, hh.below⟩
theorem wform_calls (s : Bool) (m : ByteArray) (w : World) :
    Calls Tryz.prog 120 #[.agg #[.bool s, .string m]] w fun e w' => e = .returned (.agg #[.bool (iN (iv s m)), .string (iM (iv s m))]) ∧ Below w.heap.size w w' := by
  have hh := Hp.start w
  refine calls_vc (N := 6) (l := [.agg #[.bool s, .string m]]) Tryz.func120 rfl rfl (by simp) ?_
  refine sr ?_
  refine bxC hh [_,_] ?_
  intro b1 w1 hh
  refine alC hh ?_
  intro b2 w2 hh
  refine wl_end (sr ?_)
  refine lgC hh 1 [_,_] ?_
  refine s_callf (wof_calls s m _) FnIs.out rfl (by decide) ?_
  rintro e_ w4 ⟨rfl, hb_⟩
  refine ⟨_, rfl, ?_⟩
  replace hh := hh.ext hb_
  refine s_callf (wmade_calls s m _) FnIs.out rfl (by decide) ?_
  rintro e_ w5 ⟨rfl, hb_⟩
  refine ⟨_, rfl, ?_⟩
  replace hh := hh.ext hb_
  refine stC hh 0 [_,_] ?_
  intro ws hh
  replace hh : Hp _ (.blk _ _ [_, _] _ :: _) _ := hh
  refine wl_end (wc_ret ?_)
  refine retc1 (by first | exact .inr rfl | exact .inl rfl) rfl (r_cell rfl (lv_agg (vs := [_, _]) TIs.out (hh.rd_blk_at (i := 0) (n := 2) rfl rfl) rfl) r_nil) ?_
  exact ⟨rfl, hh.below⟩
theorem wneg_calls (s : Bool) (m : ByteArray) (w : World) :
    Calls Tryz.prog 121 #[.agg #[.bool s, .string m]] w fun e w' => e = .returned (.agg #[.bool (iN (-(iv s m))), .string (iM (-(iv s m)))]) ∧ Below w.heap.size w w' := by
  have hh := Hp.start w
  have e1 : iv (!s) m = -(iv s m) := by unfold iv; cases s <;> simp
  refine calls_vc (N := 10) (l := [.agg #[.bool s, .string m]]) Tryz.func121 rfl rfl (by simp) ?_
  refine sr ?_
  refine bxC hh [_,_] ?_
  intro b1 w1 hh
  refine alC hh ?_
  intro b2 w2 hh
  refine wl_end (sr (faC ?_))
  refine l1C hh 1 ?_
  refine faC ?_
  refine l1C hh 1 ?_
  refine notC ?_
  refine bdC [_,_] ?_
  refine s_callf (wmade_calls (!s) m _) FnIs.out rfl (by decide) ?_
  rintro e_ w9 ⟨rfl, hb_⟩
  refine ⟨_, rfl, ?_⟩
  replace hh := hh.ext hb_
  rw [e1]
  refine stC hh 0 [_,_] ?_
  intro ws hh
  replace hh : Hp _ (.blk _ _ [_, _] _ :: _) _ := hh
  refine wl_end (wc_ret ?_)
  refine retc1 (by first | exact .inr rfl | exact .inl rfl) rfl (r_cell rfl (lv_agg (vs := [_, _]) TIs.out (hh.rd_blk_at (i := 0) (n := 2) rfl rfl) rfl) r_nil) ?_
  exact ⟨rfl, hh.below⟩
theorem wsign_calls (s : Bool) (m : ByteArray) (w : World) :
    Calls Tryz.prog 68 #[.agg #[.bool s, .string m]] w fun e w' => e = .returned (.int .i64 (iv s m).sign) ∧ Below w.heap.size w w' := by
  have hh := Hp.start w
  by_cases h1 : iv s m < 0
  · have hn : iN (iv s m) = true := decide_eq_true h1
    refine calls_vc (N := 13) (l := [.agg #[.bool s, .string m]]) Tryz.func68 rfl rfl (by simp) ?_
    refine sr ?_
    refine bxC hh [_,_] ?_
    intro b1 w1 hh
    refine aI (wl_end (sr ?_))
    refine lgC hh 0 [_,_] ?_
    refine s_callf (wform_calls s m _) FnIs.out rfl (by decide) ?_
    rintro e_ w5 ⟨rfl, hb_⟩
    refine ⟨_, rfl, ?_⟩
    replace hh := hh.ext hb_
    rw [hn]
    refine alC hh ?_
    intro b3 w3 hh
    refine stC hh 0 [_,_] ?_
    intro ws hh
    replace hh : Hp _ (.blk _ _ [_, _] _ :: _) _ := hh
    refine wl_end (wc_seq (wc_block (sr (faC ?_))))
    refine l1C hh 0 ?_
    refine aB (wl_end (cT (sr (aI (wl_end (wc_ret (b_ret (k_ret ?_))))))))
    refine ret1 (by first | exact .inr rfl | exact .inl rfl) rfl (v_int rfl) ?_
    exact ⟨by rw [Int.sign_eq_neg_one_of_neg h1], hh.below⟩
  · have hn : iN (iv s m) = false := decide_eq_false h1
    by_cases h0 : iM (iv s m) = ByteArray.mk #[]
    · refine calls_vc (N := 13) (l := [.agg #[.bool s, .string m]]) Tryz.func68 rfl rfl (by simp) ?_
      refine sr ?_
      refine bxC hh [_,_] ?_
      intro b1 w1 hh
      refine aI (wl_end (sr ?_))
      refine lgC hh 0 [_,_] ?_
      refine s_callf (wform_calls s m _) FnIs.out rfl (by decide) ?_
      rintro e_ w5 ⟨rfl, hb_⟩
      refine ⟨_, rfl, ?_⟩
      replace hh := hh.ext hb_
      rw [hn]
      refine alC hh ?_
      intro b3 w3 hh
      refine stC hh 0 [_,_] ?_
      intro ws hh
      replace hh : Hp _ (.blk _ _ [_, _] _ :: _) _ := hh
      refine wl_end (wc_seq (wc_block (sr (faC ?_))))
      refine l1C hh 0 ?_
      refine aB (wl_end (cF (sr (faC ?_))))
      refine l1C hh 0 ?_
      first | refine s_eql_str_t rfl rfl (by first | rfl | assumption | decide) (by decide) ?_ | refine s_eql_str_f rfl rfl (by first | assumption | decide) (by decide) ?_
      refine aB (wl_end (cT (sr (aI (wl_end (wc_ret (b_ret (k_ret ?_))))))))
      refine ret1 (by first | exact .inr rfl | exact .inl rfl) rfl (v_int rfl) ?_
      exact ⟨by rw [iM_zero.1 h0]; rfl, hh.below⟩
    · have h2 : 0 < iv s m := by
        have : iv s m ≠ 0 := fun h => h0 (iM_zero.2 h)
        omega
      refine calls_vc (N := 13) (l := [.agg #[.bool s, .string m]]) Tryz.func68 rfl rfl (by simp) ?_
      refine sr ?_
      refine bxC hh [_,_] ?_
      intro b1 w1 hh
      refine aI (wl_end (sr ?_))
      refine lgC hh 0 [_,_] ?_
      refine s_callf (wform_calls s m _) FnIs.out rfl (by decide) ?_
      rintro e_ w5 ⟨rfl, hb_⟩
      refine ⟨_, rfl, ?_⟩
      replace hh := hh.ext hb_
      rw [hn]
      refine alC hh ?_
      intro b3 w3 hh
      refine stC hh 0 [_,_] ?_
      intro ws hh
      replace hh : Hp _ (.blk _ _ [_, _] _ :: _) _ := hh
      refine wl_end (wc_seq (wc_block (sr (faC ?_))))
      refine l1C hh 0 ?_
      refine aB (wl_end (cF (sr (faC ?_))))
      refine l1C hh 0 ?_
      first | refine s_eql_str_t rfl rfl (by first | rfl | assumption | decide) (by decide) ?_ | refine s_eql_str_f rfl rfl (by first | assumption | decide) (by decide) ?_
      refine aB (wl_end (cF (wc_skip (b_norm (k_then (sr (aI (wl_end (wc_ret ?_)))))))))
      refine ret1 (by first | exact .inr rfl | exact .inl rfl) rfl (v_int rfl) ?_
      exact ⟨by rw [Int.sign_eq_one_of_pos h2], hh.below⟩
theorem iM_size (z : Int) : (iM z).size = (blen z.natAbs + 7) / 8 := sN_size _
theorem sum2 (a b : ByteArray) : ([a, b].map bN).sum = bN a + bN b := by simp
def plusU (s t : Bool) (a b : ByteArray) : Bool := if s = t then s else if bN a < bN b then t else s
theorem iv_plus (s t : Bool) (a b : ByteArray) : iv (plusU s t a b) (iM (iv s a + iv t b)) = iv s a + iv t b := by
  unfold iM iv
  rw [bN_sN]
  unfold plusU
  cases s <;> cases t <;> simp <;> (try split) <;> (try simp) <;> omega
theorem iv_times (s t : Bool) (a b : ByteArray) : iv (s != t) (iM (iv s a * iv t b)) = iv s a * iv t b := by
  rw [iM, Int.natAbs_mul, iv_abs, iv_abs]
  unfold iv
  rw [bN_sN]
  cases s <;> cases t <;> simp [Int.mul_neg, Int.neg_mul]
theorem wplus_calls (s t : Bool) (a b : ByteArray) (w : World) (ha : a.size ≤ 1000000000) (hb : b.size ≤ 1000000000) :
    Calls Tryz.prog 116 #[.agg #[.string a, .bool s], .agg #[.string b, .bool t]] w fun e w' => e = .returned (.agg #[.string (iM (iv s a + iv t b)), .bool (plusU s t a b)]) ∧ Below w.heap.size w w' := by
  have hh := Hp.start w
  have hiv : ∀ (u : Bool) (n : Nat) (z : Int), (z = if u then -(n : Int) else n) → sN n = iM z := by
    intro u n z hz
    have h1 : z.natAbs = n := by rw [hz]; split <;> omega
    rw [iM, h1]
  by_cases hst : s = t
  · subst hst
    have e1 := hiv s (bN a + bN b) (iv s a + iv s b) (by unfold iv; split <;> omega)
    refine calls_vc (N := 41) (l := [.agg #[.string a, .bool s], .agg #[.string b, .bool s]]) Tryz.func116 rfl rfl (by simp) ?_
    refine sr ?_
    refine bxC hh [_,_] ?_
    intro b2 w2 hh
    refine bxC hh [_,_] ?_
    intro b3 w3 hh
    refine alC hh ?_
    intro b4 w4 hh
    refine wl_end (wc_seq (sr (faC ?_)))
    refine l1C hh 2 ?_
    refine faC ?_
    refine l1C hh 1 ?_
    first | refine s_eqb_t UIs.out rfl rfl (by first | rfl | assumption) (by decide) ?_ | refine s_eqb_f UIs.out rfl rfl (by first | rfl | assumption | decide) (by decide) ?_ | refine s_eql_bool UIs.out rfl rfl (by decide) ?_
    refine wl_end (cT (wc_seq ?_))
    refine wc_drawn 8 [[(2, none)], [(12, some 0)], [(3, none)], [(14, some 2)], [(13, some 1), (15, some 3)], [(16, some 4)], [(2, none)], [(18, some 6)]] [(7, 19), (6, 18), (5, 17), (4, 16), (3, 15), (2, 14), (1, 13), (0, 12)] hh mixed (by kernel_rfl) ?_
    refine dfa ?_
    refine dl1 2 ?_
    refine dfa ?_
    refine dl1 1 ?_
    refine dBS [_,_] ?_
    refine dx_gen (i := 5) (Is (.string (sN (bN a + bN b)))) Is.ext ?_ ?_
    · intro ρ1 w1 hj hR
      obtain ⟨A16, c16, h16, s16⟩ := hR.1
      exact og_enter rfl (run_callf FnIs.out (evs_cons h16 evs_nil)) (natAdd_calls A16 2 c16 [a, b] _ s16 (by omega) (by simp; omega)) (fun _ _ hq => ⟨_, hq.1, hq.2, rfl⟩)
    refine dfa ?_
    refine dl1 2 ?_
    refine dx_nil ?_
    intro f W hJ hV
    have hb_2 := hJ.bl
    obtain ⟨v19, v18, v17, v16, v15, v14, v13, v12, _⟩ := hV
    obtain ⟨A16, c16, e16, f16⟩ : Rows _ _ _ (f 4) W := v16
    replace hh := hJ.hp
    refine wl_cast (updL_K (eql_cons v19 (eql_cons v18 (eql_cons v17 (eql_cons e16 (eql_cons v15 (eql_cons v14 (eql_cons v13 (eql_cons v12 eql_nil))))))))) ?_
    dsimp only [updK]
    clear e16 hJ
    refine bdC [_,_] ?_
    refine stC hh 0 [_,_] ?_
    intro ws hh
    replace hh : Hp _ (.blk _ _ [_, _] _ :: _) _ := hh
    refine wl_end (wc_ret (k_ret ?_))
    refine retc1 (by first | exact .inr rfl | exact .inl rfl) rfl (r_cell rfl (lv_agg (vs := [_, _]) TIs.out (hh.rd_blk_at (i := 0) (n := 2) rfl rfl) rfl) r_nil) ?_
    rw [e1, plusU, if_pos rfl]
    exact ⟨rfl, hh.below⟩
  · by_cases hlt : bN a < bN b
    · have e1 := hiv t (bN b - bN a) (iv s a + iv t b) (by unfold iv; cases s <;> cases t <;> simp at hst ⊢ <;> omega)
      refine calls_vc (N := 41) (l := [.agg #[.string a, .bool s], .agg #[.string b, .bool t]]) Tryz.func116 rfl rfl (by simp) ?_
      refine sr ?_
      refine bxC hh [_,_] ?_
      intro b2 w2 hh
      refine bxC hh [_,_] ?_
      intro b3 w3 hh
      refine alC hh ?_
      intro b4 w4 hh
      refine wl_end (wc_seq (sr (faC ?_)))
      refine l1C hh 2 ?_
      refine faC ?_
      refine l1C hh 1 ?_
      first | refine s_eqb_t UIs.out rfl rfl (by first | rfl | assumption) (by decide) ?_ | refine s_eqb_f UIs.out rfl rfl (by first | rfl | assumption | decide) (by decide) ?_ | refine s_eql_bool UIs.out rfl rfl (by decide) ?_
      refine wl_end (cF (wc_skip (k_then (wc_seq (sr (faC ?_))))))
      refine l1C hh 2 ?_
      refine faC ?_
      refine l1C hh 1 ?_
      refine s_callf (wcmp_calls a b _ ha hb) FnIs.out rfl (by decide) ?_
      rintro e_ w25 ⟨rfl, hb_⟩
      refine ⟨_, rfl, ?_⟩
      replace hh := hh.ext hb_
      rw [cmpN_lt hlt]
      refine lssC (wl_end (cT (wc_region ?_)))
      refine lgC hh 1 [_,_] ?_
      refine lgC hh 2 [_,_] ?_
      refine stC hh 2 [_,_] ?_
      intro ws hh
      replace hh : Hp _ (_ :: _ :: .blk _ _ [_, _] _ :: _) _ := hh
      refine stC hh 1 [_,_] ?_
      intro ws hh
      replace hh : Hp _ (_ :: .blk _ _ [_, _] _ :: _) _ := hh
      refine wl_end (sr (faC ?_))
      refine l1C hh 2 ?_
      refine faC ?_
      refine l1C hh 1 ?_
      refine s_callf (natSub_calls b a _ hb ha) FnIs.out rfl (by decide) ?_
      rintro e_ w34 ⟨rfl, hb_⟩
      refine ⟨_, rfl, ?_⟩
      replace hh := hh.ext hb_
      refine mT ?_
      refine exC ?_
      refine exC ?_
      refine aS (aB (wl_end (sr (mS (faC ?_)))))
      refine l1C hh 2 ?_
      refine bdC [_,_] ?_
      refine stC hh 0 [_,_] ?_
      intro ws hh
      replace hh : Hp _ (.blk _ _ [_, _] _ :: _) _ := hh
      refine wl_end (wc_ret ?_)
      refine retc1 (by first | exact .inr rfl | exact .inl rfl) rfl (r_cell rfl (lv_agg (vs := [_, _]) TIs.out (hh.rd_blk_at (i := 0) (n := 2) rfl rfl) rfl) r_nil) ?_
      rw [e1, plusU, if_neg hst, if_pos hlt]
      exact ⟨rfl, hh.below⟩
    · have e1 := hiv s (bN a - bN b) (iv s a + iv t b) (by unfold iv; cases s <;> cases t <;> simp at hst ⊢ <;> omega)
      have hc : ¬ cmpN (bN a) (bN b) < 0 := by unfold cmpN; split <;> (try split) <;> omega
      refine calls_vc (N := 41) (l := [.agg #[.string a, .bool s], .agg #[.string b, .bool t]]) Tryz.func116 rfl rfl (by simp) ?_
      refine sr ?_
      refine bxC hh [_,_] ?_
      intro b2 w2 hh
      refine bxC hh [_,_] ?_
      intro b3 w3 hh
      refine alC hh ?_
      intro b4 w4 hh
      refine wl_end (wc_seq (sr (faC ?_)))
      refine l1C hh 2 ?_
      refine faC ?_
      refine l1C hh 1 ?_
      first | refine s_eqb_t UIs.out rfl rfl (by first | rfl | assumption) (by decide) ?_ | refine s_eqb_f UIs.out rfl rfl (by first | rfl | assumption | decide) (by decide) ?_ | refine s_eql_bool UIs.out rfl rfl (by decide) ?_
      refine wl_end (cF (wc_skip (k_then (wc_seq (sr (faC ?_))))))
      refine l1C hh 2 ?_
      refine faC ?_
      refine l1C hh 1 ?_
      refine s_callf (wcmp_calls a b _ ha hb) FnIs.out rfl (by decide) ?_
      rintro e_ w25 ⟨rfl, hb_⟩
      refine ⟨_, rfl, ?_⟩
      replace hh := hh.ext hb_
      refine lssC (wl_end (cF (wc_skip (k_then (sr (faC ?_))))))
      refine l1C hh 2 ?_
      refine faC ?_
      refine l1C hh 1 ?_
      refine s_callf (natSub_calls a b _ ha hb) FnIs.out rfl (by decide) ?_
      rintro e_ w34 ⟨rfl, hb_⟩
      refine ⟨_, rfl, ?_⟩
      replace hh := hh.ext hb_
      refine mT ?_
      refine exC ?_
      refine exC ?_
      refine aS (aB (wl_end (sr (mS (faC ?_)))))
      refine l1C hh 2 ?_
      refine bdC [_,_] ?_
      refine stC hh 0 [_,_] ?_
      intro ws hh
      replace hh : Hp _ (.blk _ _ [_, _] _ :: _) _ := hh
      refine wl_end (wc_ret ?_)
      refine retc1 (by first | exact .inr rfl | exact .inl rfl) rfl (r_cell rfl (lv_agg (vs := [_, _]) TIs.out (hh.rd_blk_at (i := 0) (n := 2) rfl rfl) rfl) r_nil) ?_
      rw [e1, plusU, if_neg hst, if_neg hlt]
      exact ⟨rfl, hh.below⟩
theorem wtimes_calls (s t : Bool) (a b : ByteArray) (w : World) (ha : a.size ≤ 1000000000) (hb : b.size ≤ 1000000000) :
    Calls Tryz.prog 119 #[.agg #[.string a, .bool s], .agg #[.string b, .bool t]] w fun e w' => e = .returned (.agg #[.string (iM (iv s a * iv t b)), .bool (s != t)]) ∧ Below w.heap.size w w' := by
  have hh := Hp.start w
  have e0 : (iv s a * iv t b).natAbs = bN a * bN b := by rw [Int.natAbs_mul, iv_abs, iv_abs]
  have e1 : iM (iv s a * iv t b) = sN (bN a * bN b) := by rw [iM, e0]
  refine calls_vc (N := 16) (l := [.agg #[.string a, .bool s], .agg #[.string b, .bool t]]) Tryz.func119 rfl rfl (by simp) ?_
  refine sr ?_
  refine bxC hh [_,_] ?_
  intro b2 w2 hh
  refine bxC hh [_,_] ?_
  intro b3 w3 hh
  refine alC hh ?_
  intro b4 w4 hh
  refine wl_end (wc_seq ?_)
  refine wc_drawn 10 [[(2, none)], [(5, some 0)], [(3, none)], [(7, some 2)], [(6, some 1), (8, some 3)], [(2, none)], [(10, some 5)], [(3, none)], [(12, some 7)], [(11, some 6), (13, some 8)]] [(9, 14), (8, 13), (7, 12), (6, 11), (5, 10), (4, 9), (3, 8), (2, 7), (1, 6), (0, 5)] hh mixed (by kernel_rfl) ?_
  refine dfa ?_
  refine dl1 2 ?_
  refine dfa ?_
  refine dl1 1 ?_
  refine dC (fun _ hj => natMul_calls a b _ ha hb) ?_
  refine dfa ?_
  refine dl1 2 ?_
  refine dfa ?_
  refine dl1 1 ?_
  first | refine dx_val (i := 9) (fun ρ1 w1 hj hR => x_neb_f UIs.out (show ρ1 11 = Value.bool _ from hR.1) (show ρ1 13 = Value.bool _ from hR.2.1) (by first | rfl | assumption)) ?_ | refine dx_val (i := 9) (fun ρ1 w1 hj hR => x_neb_t UIs.out (show ρ1 11 = Value.bool _ from hR.1) (show ρ1 13 = Value.bool _ from hR.2.1) (by first | assumption | decide)) ?_ | refine dx_val (i := 9) (fun ρ1 w1 hj hR => x_neq_bool UIs.out (show ρ1 11 = Value.bool _ from hR.1) (show ρ1 13 = Value.bool _ from hR.2.1)) ?_
  refine dx_nil ?_
  intro f W hJ hV
  have hb_1 := hJ.bl
  obtain ⟨v14, v13, v12, v11, v10, v9, v8, v7, v6, v5, _⟩ := hV
  replace hh := hJ.hp
  refine wl_cast (updL_K (eql_cons v14 (eql_cons v13 (eql_cons v12 (eql_cons v11 (eql_cons v10 (eql_cons v9 (eql_cons v8 (eql_cons v7 (eql_cons v6 (eql_cons v5 eql_nil))))))))))) ?_
  dsimp only [updK]
  clear hJ
  refine bdC [_,_] ?_
  refine stC hh 0 [_,_] ?_
  intro ws hh
  replace hh : Hp _ (.blk _ _ [_, _] _ :: _) _ := hh
  refine wl_end (wc_ret ?_)
  refine retc1 (by first | exact .inr rfl | exact .inl rfl) rfl (r_cell rfl (lv_agg (vs := [_, _]) TIs.out (hh.rd_blk_at (i := 0) (n := 2) rfl rfl) rfl) r_nil) ?_
  rw [e1]
  exact ⟨rfl, hh.below⟩
theorem wOf_calls (n : Int) (w : World) (h1 : -9223372036854775808 ≤ n) (h2 : n ≤ 9223372036854775807) :
    Calls Tryz.prog 107 #[.int .i64 n] w fun e w' => e = .returned (.agg #[.bool (iN n), .string (iM n)]) ∧ Below w.heap.size w w' := by
  have hh := Hp.start w
  by_cases h0 : n < 0
  · have e1 : iv true (sN n.natAbs) = n := by unfold iv; rw [bN_sN, if_pos rfl]; omega
    have hw : IntKind.u64.wrap n = ((18446744073709551616 - n.natAbs : Nat) : Int) := by
      rw [show n = ((18446744073709551616 - n.natAbs : Nat) : Int) + -((18446744073709551616 : Nat) : Int) by omega]
      have := UK.wrap_add (k := .u64) (((18446744073709551616 - n.natAbs : Nat) : Int) + -((18446744073709551616 : Nat) : Int))
      rw [← this, Int.neg_add_cancel_right, UK.wrap_lt (by omega)]
      omega
    have hn : (18446744073709551616 - (18446744073709551616 - n.natAbs)) % 18446744073709551616 = n.natAbs := by omega
    refine calls_vc (N := 16) (l := [.int .i64 n]) Tryz.func107 rfl rfl (by simp) ?_
    refine sr ?_
    refine alC hh ?_
    intro b2 w2 hh
    refine wl_end (wc_seq (sr (mI ?_)))
    refine lssC (wl_end (cT (sr (mI ?_))))
    refine s_conv_int UIs.out UIs.out rfl (by decide) ?_
    rw [hw]
    refine s_negu rfl (by omega) (by decide) ?_
    rw [hn]
    skip
    refine s_callf (natOf_calls n.natAbs _ (by omega)) FnIs.out rfl (by decide) ?_
    rintro e_ w8 ⟨rfl, hb_⟩
    refine ⟨_, rfl, ?_⟩
    replace hh := hh.ext hb_
    refine bdC [_,_] ?_
    refine s_callf (wmade_calls true (sN n.natAbs) _) FnIs.out rfl (by decide) ?_
    rintro e_ w10 ⟨rfl, hb_⟩
    refine ⟨_, rfl, ?_⟩
    replace hh := hh.ext hb_
    rw [e1]
    refine stC hh 0 [_,_] ?_
    intro ws hh
    replace hh : Hp _ (.blk _ _ [_, _] _ :: _) _ := hh
    refine wl_end (wc_ret (k_ret ?_))
    refine retc1 (by first | exact .inr rfl | exact .inl rfl) rfl (r_cell rfl (lv_agg (vs := [_, _]) TIs.out (hh.rd_blk_at (i := 0) (n := 2) rfl rfl) rfl) r_nil) ?_
    exact ⟨rfl, hh.below⟩
  · obtain ⟨m, rfl⟩ := Int.eq_ofNat_of_zero_le (by omega : 0 ≤ n)
    have e1 : iv false (sN m) = m := by unfold iv; rw [bN_sN]; simp
    have hm : m < 18446744073709551616 := by omega
    refine calls_vc (N := 16) (l := [.int .i64 (m : Int)]) Tryz.func107 rfl rfl (by simp) ?_
    refine sr ?_
    refine alC hh ?_
    intro b2 w2 hh
    refine wl_end (wc_seq (sr (mI ?_)))
    refine lssC (wl_end (cF (wc_skip (k_then (sr (mI ?_))))))
    first | refine s_convu_lt UIs.out UIs.out rfl (by first | assumption | omega) (by decide) ?_ | refine s_convu UIs.out UIs.out rfl (by decide) ?_
    refine s_callf (natOf_calls m _ hm) FnIs.out rfl (by decide) ?_
    rintro e_ w13 ⟨rfl, hb_⟩
    refine ⟨_, rfl, ?_⟩
    replace hh := hh.ext hb_
    refine bdC [_,_] ?_
    refine s_callf (wmade_calls false (sN m) _) FnIs.out rfl (by decide) ?_
    rintro e_ w15 ⟨rfl, hb_⟩
    refine ⟨_, rfl, ?_⟩
    replace hh := hh.ext hb_
    rw [e1]
    refine stC hh 0 [_,_] ?_
    intro ws hh
    replace hh : Hp _ (.blk _ _ [_, _] _ :: _) _ := hh
    refine wl_end (wc_ret ?_)
    refine retc1 (by first | exact .inr rfl | exact .inl rfl) rfl (r_cell rfl (lv_agg (vs := [_, _]) TIs.out (hh.rd_blk_at (i := 0) (n := 2) rfl rfl) rfl) r_nil) ?_
    exact ⟨rfl, hh.below⟩
end Go.Proofs.YthmmofllajkejaaGreatDoor

/- The walks through the program's whole numbers (whole): sums, products, shifts. -/
namespace Go.Proofs.YthmmofllajkejaaGreatDoor
open Go.RowKit
-- umode
structure IR where
  neg : Bool
  mag : ByteArray
def IR.cells (a : IR) : List Value := [.bool a.neg, .string a.mag]
def IR.v (a : IR) : Int := iv a.neg a.mag
def iR (z : Int) : IR := ⟨iN z, iM z⟩
theorem iR_v (z : Int) : (iR z).v = z := iv_of z
theorem IR.len (a : IR) : a.cells.length = 2 := rfl
theorem IR.one (a : IR) : a.cells.all Value.oneCell' = true := rfl
theorem blen_add_int (x y : Int) : blen (x + y).natAbs ≤ max (blen x.natAbs) (blen y.natAbs) + 1 := by
  apply blen_le
  have h1 := lt_blen x.natAbs
  have h2 := lt_blen y.natAbs
  have h3 : 2 ^ blen x.natAbs ≤ 2 ^ max (blen x.natAbs) (blen y.natAbs) := Nat.pow_le_pow_right (by omega) (Nat.le_max_left _ _)
  have h4 : 2 ^ blen y.natAbs ≤ 2 ^ max (blen x.natAbs) (blen y.natAbs) := Nat.pow_le_pow_right (by omega) (Nat.le_max_right _ _)
  rw [Nat.pow_succ]
  omega
theorem blen_iv (s : Bool) (m : ByteArray) : blen (iv s m).natAbs ≤ 8 * m.size := by rw [iv_abs]; exact bN_blen m
theorem sum_snocI (l : List Int) (x : Int) : (l ++ [x]).sum = l.sum + x := by simp
theorem wAdd_calls (L : Option Addr) (n c : Nat) (l : List IR) (w : World) (hS : Sl w L n 2 (recs IR.cells l)) (hn : n ≤ 1000000) (hs : ∀ s ∈ l, s.mag.size ≤ 100000000) :
    Calls Tryz.prog 63 #[.slice L n c] w fun e w' => e = .returned (.agg #[.bool (iN (l.map IR.v).sum), .string (iM (l.map IR.v).sum)]) ∧ Below w.heap.size w w' := by
  have hl := hS.recLen IR.len (by omega)
  have hh := Hp.start w
  refine calls_vc (N := 19) (l := [.slice L n c]) Tryz.func63 rfl rfl (by simp) ?_
  refine sr ?_
  refine alC hh ?_
  intro b2 w2 hh
  refine wl_end (sr ?_)
  refine alC hh ?_
  intro b3 w3 hh
  refine wl_end (wc_seq (sr (mL (lenC (mI (wl_end (wc_block ?_)))))))
  refine wc_loop1 [5, 8, 9, 10, 11, 12, 13, 14, 15, 16] 8
    (fun j w' => ∃ (i : Nat) (u : Bool) (S : Int), i ≤ n ∧ j = .int .i64 i ∧ S = ((l.take i).map IR.v).sum ∧ iv u (iM S) = S ∧ blen S.natAbs ≤ 800000000 + i ∧ Hp w [.blk b3 130 [.string (iM S), .bool u] (0, 0), .blk b2 23 [.bool false, .string (ByteArray.mk #[])] (0, 0)] w')
    (fun j _ => n - (intOf j).toNat) ?_ ?_
  · exact ⟨0, false, 0, Nat.zero_le _, rfl, rfl, by rw [iM]; exact congrArg _ (bN_sN 0), by simp [blen_zero], by rw [iM, Int.natAbs_zero, sN_zero]; exact hh⟩
  · clear hh
    rintro ρ' j w' ⟨i, u, S, hi, rfl, hS2, hu, hb, hh⟩
    by_cases hlt : i < n
    · obtain ⟨x, hx⟩ := get_of_lt (l := l) (k := i) (by omega)
      obtain ⟨ad, rfl, hr⟩ := hS.at_ (by omega)
      have hxs := hs x (List.mem_of_getElem? hx)
      have hS3 : ((l.take (i + 1)).map IR.v).sum = S + x.v := by rw [take_snoc hx, List.map_append, List.map_singleton, sum_snocI, hS2]
      have hms : (iM S).size ≤ 1000000000 := by rw [iM_size]; omega
      have hbx := blen_iv x.neg x.mag
      have hba := blen_add_int S x.v
      have hpl := iv_plus u x.neg (iM S) x.mag
      rw [hu] at hpl
      have hwc := fun w1 => wplus_calls u x.neg (iM S) x.mag w1 hms (by omega)
      rw [hu] at hwc
      refine sr ?_
      refine lssC (wl_end (wc_seq (cT (wc_skip (k_then (wc_seq (wc_block (sr ?_))))))))
      refine s_indexSl (k := i) UIs.out TIs.size rfl rfl (by omega) (by omega) (by decide) ?_
      refine s_load (vs := [_, _]) TIs.out rfl (((hr.ext hh.below).recAt IR.len hx)) rfl (by decide) ?_
      refine alC hh ?_
      intro b5 w5 hh
      refine stC hh 0 [_,_] ?_
      intro ws hh
      replace hh : Hp _ (.blk _ _ [_, _] _ :: _) _ := hh
      refine wl_end ?_
      refine wc_drawn 3 [[(3, none)], [(5, none)], [(13, some 1)]] [(2, 14), (1, 13), (0, 12)] hh mixed (by kernel_rfl) ?_
      refine dlg 1 [_,_] ?_
      refine dlg 0 [_,_] ?_
      refine dC (fun _ hj => wof_calls x.neg x.mag _) ?_
      refine dx_nil ?_
      intro f W hJ hV
      have hb_5 := hJ.bl
      obtain ⟨v14, v13, v12, _⟩ := hV
      replace hh := hJ.hp
      refine wl_cast (updL_K (eql_cons v14 (eql_cons v13 (eql_cons v12 eql_nil)))) ?_
      dsimp only [updK]
      clear hJ
      refine s_callf (hwc _) FnIs.out rfl (by decide) ?_
      rintro e_ w15 ⟨rfl, hb_⟩
      refine ⟨_, rfl, ?_⟩
      replace hh := hh.ext hb_
      refine stC hh 1 [_,_] ?_
      intro ws hh
      replace hh : Hp _ (_ :: .blk _ _ [_, _] _ :: _) _ := hh
      refine wl_nil (b_norm (k_then (wc_region ?_)))
      refine addC (mI (wl_nil (k_then ?_)))
      replace hh := hh.sub (List.sublist_cons_self _ _)
      refine ⟨⟨i + 1, _, _, by omega, rfl, hS3.symm, hpl, by unfold IR.v at hba ⊢; omega, hh⟩, by show n - (i + 1) < n - i; omega, ?_⟩
      (repeat (first | exact agree_mask _ _ _ | refine agree_upd rfl ?_ | refine agree_mask2 rfl ?_))
    · refine sr ?_
      refine lssC (wl_end (wc_seq (cF ?_)))
      refine wc_exit ?_
      refine k_exit (k_exit (b_here (k_then (sr ?_))))
      refine lgC hh 0 [_,_] ?_
      refine s_callf (wmade_calls u (iM S) _) FnIs.out rfl (by decide) ?_
      rintro e_ w18 ⟨rfl, hb_⟩
      refine ⟨_, rfl, ?_⟩
      replace hh := hh.ext hb_
      rw [hu]
      refine stC hh 1 [_,_] ?_
      intro ws hh
      replace hh : Hp _ (_ :: .blk _ _ [_, _] _ :: _) _ := hh
      refine wl_end (wc_ret ?_)
      refine retc1 (by first | exact .inr rfl | exact .inl rfl) rfl (r_cell rfl (lv_agg (vs := [_, _]) TIs.out (hh.rd_blk_at (i := 1) (n := 2) rfl rfl) rfl) r_nil) ?_
      rw [List.take_of_length_le (by omega)] at hS2
      rw [hS2]
      exact ⟨rfl, hh.below⟩
theorem iM_neg_size (s : Bool) (b : ByteArray) : (iM (-(iv s b))).size ≤ b.size := by
  have := blen_iv s b
  rw [iM_size, Int.natAbs_neg]; omega
theorem wSub_calls (s t : Bool) (a b : ByteArray) (w : World) (ha : a.size ≤ 100000000) (hb : b.size ≤ 100000000) :
    Calls Tryz.prog 115 #[.agg #[.bool s, .string a], .agg #[.bool t, .string b]] w fun e w' => e = .returned (.agg #[.bool (iN (iv s a - iv t b)), .string (iM (iv s a - iv t b))]) ∧ Below w.heap.size w w' := by
  have hh := Hp.start w
  have h1 := iM_neg_size t b
  have e1 : ([IR.mk s a, iR (-(iv t b))].map IR.v).sum = iv s a - iv t b := by
    simp only [List.map_cons, List.map_nil, List.sum_cons, List.sum_nil, iR_v]
    simp only [IR.v]; omega
  refine calls_vc (N := 10) (l := [.agg #[.bool s, .string a], .agg #[.bool t, .string b]]) Tryz.func115 rfl rfl (by simp) ?_
  refine sr ?_
  refine bxC hh [_,_] ?_
  intro b2 w2 hh
  refine bxC hh [_,_] ?_
  intro b3 w3 hh
  refine alC hh ?_
  intro b4 w4 hh
  refine wl_end (wc_seq ?_)
  refine wc_drawn 3 [[(2, none)], [(3, none)], [(6, some 1)]] [(2, 7), (1, 6), (0, 5)] hh mixed (by kernel_rfl) ?_
  refine dlg 2 [_,_] ?_
  refine dlg 1 [_,_] ?_
  refine dC (fun _ hj => wneg_calls t b _) ?_
  refine dx_nil ?_
  intro f W hJ hV
  have hb_1 := hJ.bl
  obtain ⟨v7, v6, v5, _⟩ := hV
  replace hh := hJ.hp
  refine wl_cast (updL_K (eql_cons v7 (eql_cons v6 (eql_cons v5 eql_nil)))) ?_
  dsimp only [updK]
  clear hJ
  refine wl_buildSlice hh (cs := [_, _, _, _]) UIs.out TIs.out (evp_cons (ev_agg rfl) (evp_cons (ev_agg rfl) evp_nil)) rfl rfl (by decide) (by decide) (by decide) rfl (by decide) ?_
  intro b8 w8 hh
  refine s_callf (wAdd_calls _ 2 _ [IR.mk s a, iR (-(iv t b))] _ (hh.sl_row (i := 0) rfl) (by omega) (by simp [iR]; omega)) FnIs.out rfl (by decide) ?_
  rintro e_ w9 ⟨rfl, hb_⟩
  refine ⟨_, rfl, ?_⟩
  replace hh := hh.ext hb_
  rw [e1]
  refine stC hh 1 [_,_] ?_
  intro ws hh
  replace hh : Hp _ (_ :: .blk _ _ [_, _] _ :: _) _ := hh
  refine wl_end (wc_ret ?_)
  refine retc1 (by first | exact .inr rfl | exact .inl rfl) rfl (r_cell rfl (lv_agg (vs := [_, _]) TIs.out (hh.rd_blk_at (i := 1) (n := 2) rfl rfl) rfl) r_nil) ?_
  exact ⟨rfl, hh.below⟩
theorem wCmp_calls (s t : Bool) (a b : ByteArray) (w : World) (ha : a.size ≤ 100000000) (hb : b.size ≤ 100000000) :
    Calls Tryz.prog 62 #[.agg #[.bool s, .string a], .agg #[.bool t, .string b]] w fun e w' => e = .returned (.int .i64 (iv s a - iv t b).sign) ∧ Below w.heap.size w w' := by
  have hh := Hp.start w
  refine calls_vc (N := 9) (l := [.agg #[.bool s, .string a], .agg #[.bool t, .string b]]) Tryz.func62 rfl rfl (by simp) ?_
  refine sr ?_
  refine bxC hh [_,_] ?_
  intro b2 w2 hh
  refine bxC hh [_,_] ?_
  intro b3 w3 hh
  refine aI (wl_end (sr ?_))
  refine lgC hh 1 [_,_] ?_
  refine lgC hh 0 [_,_] ?_
  refine s_callf (wSub_calls s t a b _ ha hb) FnIs.out rfl (by decide) ?_
  rintro e_ w7 ⟨rfl, hb_⟩
  refine ⟨_, rfl, ?_⟩
  replace hh := hh.ext hb_
  refine s_callf (wsign_calls _ _ _) FnIs.out rfl (by decide) ?_
  rintro e_ w8 ⟨rfl, hb_⟩
  refine ⟨_, rfl, ?_⟩
  replace hh := hh.ext hb_
  rw [iv_of]
  refine aI (wl_end (wc_ret ?_))
  refine ret1 (by first | exact .inr rfl | exact .inl rfl) rfl (v_int rfl) ?_
  exact ⟨rfl, hh.below⟩
theorem blen_mul (a b : Nat) : blen (a * b) ≤ blen a + blen b := by
  apply blen_le
  rw [Nat.pow_add]
  exact Nat.mul_lt_mul'' (lt_blen a) (lt_blen b)
theorem blen_mul_int (a b : Int) : blen (a * b).natAbs ≤ blen a.natAbs + blen b.natAbs := by rw [Int.natAbs_mul]; exact blen_mul _ _
/-- The product of a list. -/
def prodI : List Int → Int
  | [] => 1
  | x :: l => x * prodI l
theorem prodI_snoc (l : List Int) (x : Int) : prodI (l ++ [x]) = prodI l * x := by
  induction l with
  | nil => simp [prodI]
  | cons y l ih => simp only [List.cons_append, prodI, ih, Int.mul_assoc]
theorem sum_take_le (l : List Nat) (i : Nat) : (l.take i).sum ≤ l.sum := by
  rw [← List.sum_append_nat.symm.trans (congrArg List.sum (List.take_append_drop i l))]; omega
theorem blen_one : blen 1 = 1 := by decide +kernel
theorem wMul_calls (L : Option Addr) (n c : Nat) (l : List IR) (w : World) (hS : Sl w L n 2 (recs IR.cells l)) (hn : n ≤ 1000000) (hs : (l.map fun a => a.mag.size).sum ≤ 100000000) :
    Calls Tryz.prog 67 #[.slice L n c] w fun e w' => e = .returned (.agg #[.bool (iN (prodI (l.map IR.v))), .string (iM (prodI (l.map IR.v)))]) ∧ Below w.heap.size w w' := by
  have hl := hS.recLen IR.len (by omega)
  have hh := Hp.start w
  have hsum := sum_take_le (l.map fun a => a.mag.size)
  refine calls_vc (N := 21) (l := [.slice L n c]) Tryz.func67 rfl rfl (by simp) ?_
  refine sr ?_
  refine alC hh ?_
  intro b2 w2 hh
  refine wl_end (sr ?_)
  refine s_callf (wOf_calls 1 _ (by omega) (by omega)) FnIs.out rfl (by decide) ?_
  rintro e_ w6 ⟨rfl, hb_⟩
  refine ⟨_, rfl, ?_⟩
  replace hh := hh.ext hb_
  refine s_callf (wof_calls _ _ _) FnIs.out rfl (by decide) ?_
  rintro e_ w7 ⟨rfl, hb_⟩
  refine ⟨_, rfl, ?_⟩
  replace hh := hh.ext hb_
  refine alC hh ?_
  intro b3 w3 hh
  refine stC hh 0 [_,_] ?_
  intro ws hh
  replace hh : Hp _ (.blk _ _ [_, _] _ :: _) _ := hh
  refine wl_end (wc_seq (sr (mL (lenC (mI (wl_end (wc_block ?_)))))))
  refine wc_loop1 [5, 10, 11, 12, 13, 14, 15, 16, 17, 18] 10
    (fun j w' => ∃ (i : Nat) (u : Bool) (S : Int), i ≤ n ∧ j = .int .i64 i ∧ S = prodI ((l.take i).map IR.v) ∧ iv u (iM S) = S ∧ blen S.natAbs ≤ 1 + 8 * ((l.map fun a => a.mag.size).take i).sum ∧ Hp w [.blk b3 130 [.string (iM S), .bool u] (0, 0), .blk b2 23 [.bool false, .string (ByteArray.mk #[])] (0, 0)] w')
    (fun j _ => n - (intOf j).toNat) ?_ ?_
  · exact ⟨0, _, 1, Nat.zero_le _, rfl, rfl, iv_of 1, by rw [Int.natAbs_one, blen_one]; omega, hh⟩
  · clear hh
    rintro ρ' j w' ⟨i, u, S, hi, rfl, hS2, hu, hb, hh⟩
    by_cases hlt : i < n
    · obtain ⟨x, hx⟩ := get_of_lt (l := l) (k := i) (by omega)
      obtain ⟨ad, rfl, hr⟩ := hS.at_ (by omega)
      have hsi := hsum i
      have hsi2 := hsum (i + 1)
      have hsz : ((l.map fun a => a.mag.size).take (i + 1)).sum = ((l.map fun a => a.mag.size).take i).sum + x.mag.size := by
        rw [take_snoc (x := x.mag.size) (by rw [List.getElem?_map, hx]; rfl), sum_snocN]
      have hS3 : prodI ((l.take (i + 1)).map IR.v) = S * x.v := by rw [take_snoc hx, List.map_append, List.map_singleton, prodI_snoc, hS2]
      have hms : (iM S).size ≤ 1000000000 := by rw [iM_size]; omega
      have hbx := blen_iv x.neg x.mag
      have hba := blen_mul_int S x.v
      have hpl := iv_times u x.neg (iM S) x.mag
      rw [hu] at hpl
      have hwc := fun w1 => wtimes_calls u x.neg (iM S) x.mag w1 hms (by omega)
      rw [hu] at hwc
      refine sr ?_
      refine lssC (wl_end (wc_seq (cT (wc_skip (k_then (wc_seq (wc_block (sr ?_))))))))
      refine s_indexSl (k := i) UIs.out TIs.size rfl rfl (by omega) (by omega) (by decide) ?_
      refine s_load (vs := [_, _]) TIs.out rfl (((hr.ext hh.below).recAt IR.len hx)) rfl (by decide) ?_
      refine alC hh ?_
      intro b5 w5 hh
      refine stC hh 0 [_,_] ?_
      intro ws hh
      replace hh : Hp _ (.blk _ _ [_, _] _ :: _) _ := hh
      refine wl_end ?_
      refine wc_drawn 3 [[(3, none)], [(5, none)], [(15, some 1)]] [(2, 16), (1, 15), (0, 14)] hh mixed (by kernel_rfl) ?_
      refine dlg 1 [_,_] ?_
      refine dlg 0 [_,_] ?_
      refine dC (fun _ hj => wof_calls x.neg x.mag _) ?_
      refine dx_nil ?_
      intro f W hJ hV
      have hb_5 := hJ.bl
      obtain ⟨v16, v15, v14, _⟩ := hV
      replace hh := hJ.hp
      refine wl_cast (updL_K (eql_cons v16 (eql_cons v15 (eql_cons v14 eql_nil)))) ?_
      dsimp only [updK]
      clear hJ
      refine s_callf (hwc _) FnIs.out rfl (by decide) ?_
      rintro e_ w17 ⟨rfl, hb_⟩
      refine ⟨_, rfl, ?_⟩
      replace hh := hh.ext hb_
      refine stC hh 1 [_,_] ?_
      intro ws hh
      replace hh : Hp _ (_ :: .blk _ _ [_, _] _ :: _) _ := hh
      refine wl_nil (b_norm (k_then (wc_region ?_)))
      refine addC (mI (wl_nil (k_then ?_)))
      replace hh := hh.sub (List.sublist_cons_self _ _)
      refine ⟨⟨i + 1, _, _, by omega, rfl, hS3.symm, hpl, by unfold IR.v at hba ⊢; omega, hh⟩, by show n - (i + 1) < n - i; omega, ?_⟩
      (repeat (first | exact agree_mask _ _ _ | refine agree_upd rfl ?_ | refine agree_mask2 rfl ?_))
    · refine sr ?_
      refine lssC (wl_end (wc_seq (cF ?_)))
      refine wc_exit ?_
      refine k_exit (k_exit (b_here (k_then (sr ?_))))
      refine lgC hh 0 [_,_] ?_
      refine s_callf (wmade_calls u (iM S) _) FnIs.out rfl (by decide) ?_
      rintro e_ w20 ⟨rfl, hb_⟩
      refine ⟨_, rfl, ?_⟩
      replace hh := hh.ext hb_
      rw [hu]
      refine stC hh 1 [_,_] ?_
      intro ws hh
      replace hh : Hp _ (_ :: .blk _ _ [_, _] _ :: _) _ := hh
      refine wl_end (wc_ret ?_)
      refine retc1 (by first | exact .inr rfl | exact .inl rfl) rfl (r_cell rfl (lv_agg (vs := [_, _]) TIs.out (hh.rd_blk_at (i := 1) (n := 2) rfl rfl) rfl) r_nil) ?_
      rw [List.take_of_length_le (by omega)] at hS2
      rw [hS2]
      exact ⟨rfl, hh.below⟩
theorem div_neg_pow (M k : Nat) (h : 2 ^ k ∣ M) : -((M / 2 ^ k : Nat) : Int) = -(M : Int) / 2 ^ k := by
  obtain ⟨q, rfl⟩ := h
  have hp : (0 : Int) < 2 ^ k := Int.pow_pos (by omega)
  rw [Nat.mul_div_cancel_left _ (Nat.pow_pos (by omega)), Int.natCast_mul, ← Int.mul_neg, Int.natCast_pow]
  exact (Int.mul_ediv_cancel_left _ (by exact Int.ne_of_gt hp)).symm
theorem div_neg_pow' (M k : Nat) (h : ¬ 2 ^ k ∣ M) : -((M / 2 ^ k : Nat) : Int) - 1 = -(M : Int) / 2 ^ k := by
  have hp : (0 : Int) < 2 ^ k := Int.pow_pos (by omega)
  have h1 := Nat.div_add_mod M (2 ^ k)
  have h2 := Nat.mod_lt M (Nat.pow_pos (n := k) (show 0 < 2 by omega))
  have h3 : M % 2 ^ k ≠ 0 := fun h0 => h (Nat.dvd_of_mod_eq_zero h0)
  have hc : ((2 ^ k : Nat) : Int) = 2 ^ k := by simp
  symm
  rw [Int.ediv_eq_iff_of_pos hp, ← hc]
  have h4 : (M : Int) = (2 ^ k : Nat) * (M / 2 ^ k : Nat) + (M % 2 ^ k : Nat) := by rw [← Int.natCast_mul, ← Int.natCast_add, h1]
  generalize hK : ((2 ^ k : Nat) : Int) = K at *
  generalize ((M / 2 ^ k : Nat) : Int) = q at *
  have e : (-q - 1) * K = -(K * q) - K := by rw [Int.sub_mul, Int.neg_mul, Int.mul_comm q]; omega
  have e2 : (-q - 1 + 1) * K = -(K * q) := by rw [Int.sub_add_cancel, Int.neg_mul, Int.mul_comm]
  omega
theorem dvd_tz {M k : Nat} (h0 : M ≠ 0) : 2 ^ k ∣ M ↔ k ≤ tz M := by
  obtain ⟨m, hm⟩ := tz_spec h0
  generalize tz M = t at *
  constructor
  · intro h
    rcases Nat.lt_or_ge t k with hlt | hge
    · exfalso
      obtain ⟨q, hq⟩ := h
      rw [hm, show k = t + (1 + (k - t - 1)) by omega, Nat.pow_add, Nat.pow_add, Nat.mul_assoc] at hq
      have := Nat.eq_of_mul_eq_mul_left (Nat.pow_pos (by omega)) hq
      rw [Nat.pow_one, Nat.mul_assoc] at this
      omega
    · exact hge
  · intro h
    rw [hm]
    exact Nat.dvd_trans (Nat.pow_dvd_pow 2 h) (Nat.dvd_mul_right _ _)
end Go.Proofs.YthmmofllajkejaaGreatDoor

/- The walks through the program's whole numbers (whole): powers and shifts. -/
namespace Go.Proofs.YthmmofllajkejaaGreatDoor
open Go.RowKit
-- umode
theorem blen_pow_int (a : Int) (n : Nat) : blen (a ^ n).natAbs ≤ 1 + n * blen a.natAbs := by
  induction n with
  | zero => simp [blen_one]
  | succ n ih =>
    rw [Int.pow_succ]
    have := blen_mul_int (a ^ n) a
    rw [Nat.succ_mul]; omega
theorem wPow_calls (s : Bool) (a : ByteArray) (n : Int) (w : World) (h0 : n.toNat * a.size ≤ 100000000) (hn : n ≤ 1000000000) (ha : a.size ≤ 100000000) :
    Calls Tryz.prog 114 #[.agg #[.bool s, .string a], .int .i64 n] w fun e w' => e = .returned (.agg #[.bool (iN (iv s a ^ n.toNat)), .string (iM (iv s a ^ n.toNat))]) ∧ Below w.heap.size w w' := by
  have hh := Hp.start w
  have e1 : (if (0 : Int) > n then 0 else n) = (n.toNat : Int) := by split <;> omega
  have hm : n.toNat ≤ 1000000000 := by omega
  generalize n.toNat = m at *
  refine calls_vc (N := 19) (l := [.agg #[.bool s, .string a], .int .i64 n]) Tryz.func114 rfl rfl (by simp) ?_
  refine sr ?_
  refine bxC hh [_,_] ?_
  intro b2 w2 hh
  refine alC hh ?_
  intro b4 w4 hh
  refine wl_end (sr ?_)
  refine s_callf (wOf_calls 1 _ (by omega) (by omega)) FnIs.out rfl (by decide) ?_
  rintro e_ w6 ⟨rfl, hb_⟩
  refine ⟨_, rfl, ?_⟩
  replace hh := hh.ext hb_
  refine s_callf (wof_calls _ _ _) FnIs.out rfl (by decide) ?_
  rintro e_ w7 ⟨rfl, hb_⟩
  refine ⟨_, rfl, ?_⟩
  replace hh := hh.ext hb_
  refine alC hh ?_
  intro b5 w5 hh
  refine stC hh 0 [_,_] ?_
  intro ws hh
  replace hh : Hp _ (.blk _ _ [_, _] _ :: _) _ := hh
  refine wl_end (wc_seq (sr (mI ?_)))
  refine s_max rfl rfl (by decide) ?_
  refine mI (wl_end (wc_block ?_))
  rw [e1]
  refine wc_loop1 [10, 11, 12, 13, 14, 15, 16] 10
    (fun j w' => ∃ (i : Nat) (u : Bool) (S : Int), i ≤ m ∧ j = .int .i64 i ∧ S = iv s a ^ i ∧ iv u (iM S) = S ∧ Hp w [.blk b5 130 [.string (iM S), .bool u] (0, 0), .blk b4 23 [.bool false, .string (ByteArray.mk #[])] (0, 0), .blk b2 23 [.bool s, .string a] (0, 0)] w')
    (fun j _ => m - (intOf j).toNat) ?_ ?_
  · exact ⟨0, _, 1, Nat.zero_le _, rfl, by rw [Int.pow_zero], iv_of 1, hh⟩
  · clear hh
    rintro ρ' j w' ⟨i, u, S, hi, rfl, hS2, hu, hh⟩
    by_cases hlt : i < m
    · have hb := blen_pow_int (iv s a) i
      rw [← hS2] at hb
      have hbx := blen_iv s a
      have hle : i * blen (iv s a).natAbs ≤ m * (8 * a.size) := Nat.mul_le_mul hi hbx
      rw [Nat.mul_left_comm] at hle
      have hms : (iM S).size ≤ 1000000000 := by rw [iM_size]; omega
      have hpl := iv_times u s (iM S) a
      rw [hu] at hpl
      have hwc := fun w1 => wtimes_calls u s (iM S) a w1 hms (by omega)
      rw [hu] at hwc
      refine sr ?_
      refine lssC (wl_end (wc_seq (cT (wc_skip (k_then (wc_seq (wc_block ?_)))))))
      refine wc_drawn 3 [[(5, none)], [(2, none)], [(13, some 1)]] [(2, 14), (1, 13), (0, 12)] hh mixed (by kernel_rfl) ?_
      refine dlg 0 [_,_] ?_
      refine dlg 2 [_,_] ?_
      refine dC (fun _ hj => wof_calls s a _) ?_
      refine dx_nil ?_
      intro f W hJ hV
      have hb_4 := hJ.bl
      obtain ⟨v14, v13, v12, _⟩ := hV
      replace hh := hJ.hp
      refine wl_cast (updL_K (eql_cons v14 (eql_cons v13 (eql_cons v12 eql_nil)))) ?_
      dsimp only [updK]
      clear hJ
      refine s_callf (hwc _) FnIs.out rfl (by decide) ?_
      rintro e_ w15 ⟨rfl, hb_⟩
      refine ⟨_, rfl, ?_⟩
      replace hh := hh.ext hb_
      refine stC hh 0 [_,_] ?_
      intro ws hh
      replace hh : Hp _ (.blk _ _ [_, _] _ :: _) _ := hh
      refine wl_nil (b_norm (k_then (wc_region ?_)))
      refine addC (mI (wl_nil (k_then ?_)))
      refine ⟨⟨i + 1, _, _, by omega, rfl, by rw [Int.pow_succ, hS2], hpl, hh⟩, by show m - (i + 1) < m - i; omega, ?_⟩
      (repeat (first | exact agree_mask _ _ _ | refine agree_upd rfl ?_ | refine agree_mask2 rfl ?_))
    · obtain rfl : i = m := by omega
      refine sr ?_
      refine lssC (wl_end (wc_seq (cF ?_)))
      refine wc_exit ?_
      refine k_exit (k_exit (b_here (k_then (sr ?_))))
      refine lgC hh 0 [_,_] ?_
      refine s_callf (wmade_calls u (iM S) _) FnIs.out rfl (by decide) ?_
      rintro e_ w18 ⟨rfl, hb_⟩
      refine ⟨_, rfl, ?_⟩
      replace hh := hh.ext hb_
      rw [hu, hS2]
      refine stC hh 1 [_,_] ?_
      intro ws hh
      replace hh : Hp _ (_ :: .blk _ _ [_, _] _ :: _) _ := hh
      refine wl_end (wc_ret ?_)
      refine retc1 (by first | exact .inr rfl | exact .inl rfl) rfl (r_cell rfl (lv_agg (vs := [_, _]) TIs.out (hh.rd_blk_at (i := 1) (n := 2) rfl rfl) rfl) r_nil) ?_
      exact ⟨rfl, hh.below⟩
theorem iv_shl (s : Bool) (a : ByteArray) (m : Nat) : iv s (sN (bN a * 2 ^ m)) = iv s a * 2 ^ m := by
  unfold iv
  rw [bN_sN]
  cases s <;> simp [Int.natCast_mul, Int.neg_mul]
theorem wShl_calls (s : Bool) (a : ByteArray) (m : Nat) (w : World) (ha : a.size ≤ 100000000) (hm : m ≤ 1000000000) :
    Calls Tryz.prog 110 #[.agg #[.bool s, .string a], .int .i64 (m : Int)] w fun e w' => e = .returned (.agg #[.bool (iN (iv s a * 2 ^ m)), .string (iM (iv s a * 2 ^ m))]) ∧ Below w.heap.size w w' := by
  have hh := Hp.start w
  refine calls_vc (N := 47) (l := [.agg #[.bool s, .string a], .int .i64 (m : Int)]) Tryz.func110 rfl rfl (by simp) ?_
  refine sr ?_
  refine bxC hh [_,_] ?_
  intro b2 w2 hh
  refine alC hh ?_
  intro b4 w4 hh
  refine wl_end (wc_seq (sr (mI ?_)))
  refine geqC (wl_end (cT (wc_seq ?_)))
  refine wc_drawn 6 [[(2, none)], [(8, some 0)], [(1, none)], [(9, some 1), (10, some 2)], [(2, none)], [(12, some 4)]] [(5, 13), (4, 12), (3, 11), (2, 10), (1, 9), (0, 8)] hh mixed (by kernel_rfl) ?_
  refine dfa ?_
  refine dl1 1 ?_
  refine dmI ?_
  refine dC (fun _ hj => natShl_calls a m _ (by omega) (by omega)) ?_
  refine dfa ?_
  refine dl1 1 ?_
  refine dx_nil ?_
  intro f W hJ hV
  have hb_2 := hJ.bl
  obtain ⟨v13, v12, v11, v10, v9, v8, _⟩ := hV
  replace hh := hJ.hp
  refine wl_cast (updL_K (eql_cons v13 (eql_cons v12 (eql_cons v11 (eql_cons v10 (eql_cons v9 (eql_cons v8 eql_nil))))))) ?_
  dsimp only [updK]
  clear hJ
  refine bdC [_,_] ?_
  refine s_callf (wmade_calls s (sN (bN a * 2 ^ m)) _) FnIs.out rfl (by decide) ?_
  rintro e_ w15 ⟨rfl, hb_⟩
  refine ⟨_, rfl, ?_⟩
  replace hh := hh.ext hb_
  rw [iv_shl]
  refine stC hh 0 [_,_] ?_
  intro ws hh
  replace hh : Hp _ (.blk _ _ [_, _] _ :: _) _ := hh
  refine wl_end (wc_ret (k_ret ?_))
  refine retc1 (by first | exact .inr rfl | exact .inl rfl) rfl (r_cell rfl (lv_agg (vs := [_, _]) TIs.out (hh.rd_blk_at (i := 0) (n := 2) rfl rfl) rfl) r_nil) ?_
  exact ⟨rfl, hh.below⟩
theorem wShr_calls (s : Bool) (a : ByteArray) (m : Nat) (w : World) (hT : Tab w) (ha : a.size ≤ 100000000) (h0 : 0 < m) (hm : m ≤ 1000000000000) :
    Calls Tryz.prog 110 #[.agg #[.bool s, .string a], .int .i64 (-(m : Int))] w fun e w' => e = .returned (.agg #[.bool (iN (iv s a / 2 ^ m)), .string (iM (iv s a / 2 ^ m))]) ∧ Below w.heap.size w w' := by
  have hh := Hp.start w
  have e1 : (if (-1099511627776 : Int) > -(m : Int) then -1099511627776 else -(m : Int)) = -(m : Int) := if_neg (by omega)
  have e2 : -(-(m : Int)) = (m : Int) := by omega
  have hcs : ∀ w1, Calls Tryz.prog 141 #[.string a, .int .i64 (-(-(m : Int)))] w1 fun e w' => e = .returned (.string (sN (bN a / 2 ^ m))) ∧ Below w1.heap.size w1 w' := fun w1 => by
    rw [e2]; exact natShr_calls a m w1 (by omega) (by omega)
  cases s with
  | false =>
    have e3 : iv false (sN (bN a / 2 ^ m)) = iv false a / 2 ^ m := by
      unfold iv
      rw [bN_sN]
      simp
    refine calls_vc (N := 47) (l := [.agg #[.bool false, .string a], .int .i64 (-(m : Int))]) Tryz.func110 rfl rfl (by simp) ?_
    refine sr ?_
    refine bxC hh [_,_] ?_
    intro b2 w2 hh
    refine alC hh ?_
    intro b4 w4 hh
    refine wl_end (wc_seq (sr (mI ?_)))
    refine geqC (wl_end (cF (wc_skip (k_then (sr (mI ?_))))))
    refine s_max rfl rfl (by decide) ?_
    refine aI (wl_end (wc_seq ?_))
    rw [e1]
    refine wc_drawn 10 [[(2, none)], [(18, some 0)], [(1, none)], [(20, some 2)], [(19, some 1), (21, some 3)], [(2, none)], [(23, some 5)], [(22, some 4), (24, some 6)], [(25, some 7)], []] [(9, 5), (8, 26), (7, 25), (6, 24), (5, 23), (4, 22), (3, 21), (2, 20), (1, 19), (0, 18)] hh mixed (by kernel_rfl) ?_
    refine dfa ?_
    refine dl1 1 ?_
    refine dmI ?_
    refine dx_val (i := 3) (fun ρ1 w1 hj hR => x_negi (show ρ1 20 = Value.int _ _ from hR.1) (by omega) (by omega)) ?_
    refine dC (fun _ hj => hcs _) ?_
    refine dfa ?_
    refine dl1 1 ?_
    refine dB [_,_] ?_
    refine dC (fun _ hj => wmade_calls false (sN (bN a / 2 ^ m)) _) ?_
    refine dx_gen (i := 9) (NewVar _ 23 _) NewVar.ext (fun ρ1 w1 hj hR => og_alloc TIs.out hj.bl (fun v w2 h hb => ⟨hb, h⟩)) ?_
    refine dx_nil ?_
    intro f W hJ hV
    have hb_4 := hJ.bl
    obtain ⟨v5, v26, v25, v24, v23, v22, v21, v20, v19, v18, _⟩ := hV
    obtain ⟨b5, e5, hl5, hc5⟩ : NewVar _ _ _ (f 9) W := v5
    replace hh := hJ.newVar hh hl5 hc5
    refine wl_cast (updL_K (eql_cons e5 (eql_cons v26 (eql_cons v25 (eql_cons v24 (eql_cons v23 (eql_cons v22 (eql_cons v21 (eql_cons v20 (eql_cons v19 (eql_cons v18 eql_nil))))))))))) ?_
    dsimp only [updK]
    clear e5 hJ
    rw [e3]
    refine stC hh 0 [_,_] ?_
    intro ws hh
    replace hh : Hp _ (.blk _ _ [_, _] _ :: _) _ := hh
    refine wl_end (wc_seq (sr (faC ?_)))
    refine l1C hh 2 ?_
    refine mB ?_
    first | refine gS ?_ | (refine gT ?_; refine faC ?_) | refine gV ?_
    first | refine gS ?_ | (refine gT ?_; refine l1C hh 2 ?_) | refine gV ?_
    refine wl_guard_skip (by decide) rfl rfl (by decide) ?_
    first | refine gS ?_ | (refine gT ?_; refine gtrC ?_) | refine gV ?_
    first | refine pkT ?_ | refine pkF ?_
    refine mB ?_
    first | refine gS ?_ | (refine gT ?_; refine faC ?_) | refine gV ?_
    first | refine gS ?_ | (refine gT ?_; refine l1C hh 2 ?_) | refine gV ?_
    refine wl_guard_skip (by decide) rfl rfl (by decide) ?_
    first | refine gS ?_ | (refine gT ?_; refine mI ?_) | refine gV ?_
    first | refine gS ?_ | (refine gT ?_; refine s_negi rfl (by omega) (by omega) (by decide) ?_) | refine gV ?_
    first | refine gS ?_ | (refine gT ?_; refine lssC ?_) | refine gV ?_
    first | refine pkT ?_ | refine pkF ?_
    refine wl_end (cF (wc_skip (k_then (sr ?_))))
    refine lgC hh 0 [_,_] ?_
    refine stC hh 1 [_,_] ?_
    intro ws hh
    replace hh : Hp _ (_ :: .blk _ _ [_, _] _ :: _) _ := hh
    refine wl_end (wc_ret ?_)
    refine retc1 (by first | exact .inr rfl | exact .inl rfl) rfl (r_cell rfl (lv_agg (vs := [_, _]) TIs.out (hh.rd_blk_at (i := 1) (n := 2) rfl rfl) rfl) r_nil) ?_
    exact ⟨rfl, hh.below⟩
  | true =>
    have hb := bN_blen a
    have e4 : iv true (sN (bN a / 2 ^ m)) = -((bN a / 2 ^ m : Nat) : Int) := by
      unfold iv
      rw [bN_sN, if_pos rfl]
    have e5 : iv true a = -(bN a : Int) := by unfold iv; rw [if_pos rfl]
    by_cases hz : bN a = 0
    · have e3 : iv true (sN (bN a / 2 ^ m)) = iv true a / 2 ^ m := by
        rw [e4, e5, hz]; simp
      refine calls_vc (N := 47) (l := [.agg #[.bool true, .string a], .int .i64 (-(m : Int))]) Tryz.func110 rfl rfl (by simp) ?_
      refine sr ?_
      refine bxC hh [_,_] ?_
      intro b2 w2 hh
      refine alC hh ?_
      intro b4 w4 hh
      refine wl_end (wc_seq (sr (mI ?_)))
      refine geqC (wl_end (cF (wc_skip (k_then (sr (mI ?_))))))
      refine s_max rfl rfl (by decide) ?_
      refine aI (wl_end (wc_seq ?_))
      rw [e1]
      refine wc_drawn 10 [[(2, none)], [(18, some 0)], [(1, none)], [(20, some 2)], [(19, some 1), (21, some 3)], [(2, none)], [(23, some 5)], [(22, some 4), (24, some 6)], [(25, some 7)], []] [(9, 5), (8, 26), (7, 25), (6, 24), (5, 23), (4, 22), (3, 21), (2, 20), (1, 19), (0, 18)] hh mixed (by kernel_rfl) ?_
      refine dfa ?_
      refine dl1 1 ?_
      refine dmI ?_
      refine dx_val (i := 3) (fun ρ1 w1 hj hR => x_negi (show ρ1 20 = Value.int _ _ from hR.1) (by omega) (by omega)) ?_
      refine dC (fun _ hj => hcs _) ?_
      refine dfa ?_
      refine dl1 1 ?_
      refine dB [_,_] ?_
      refine dC (fun _ hj => wmade_calls true (sN (bN a / 2 ^ m)) _) ?_
      refine dx_gen (i := 9) (NewVar _ 23 _) NewVar.ext (fun ρ1 w1 hj hR => og_alloc TIs.out hj.bl (fun v w2 h hb => ⟨hb, h⟩)) ?_
      refine dx_nil ?_
      intro f W hJ hV
      have hb_4 := hJ.bl
      obtain ⟨v5, v26, v25, v24, v23, v22, v21, v20, v19, v18, _⟩ := hV
      obtain ⟨b5, e5, hl5, hc5⟩ : NewVar _ _ _ (f 9) W := v5
      replace hh := hJ.newVar hh hl5 hc5
      refine wl_cast (updL_K (eql_cons e5 (eql_cons v26 (eql_cons v25 (eql_cons v24 (eql_cons v23 (eql_cons v22 (eql_cons v21 (eql_cons v20 (eql_cons v19 (eql_cons v18 eql_nil))))))))))) ?_
      dsimp only [updK]
      clear e5 hJ
      rw [e3]
      refine stC hh 0 [_,_] ?_
      intro ws hh
      replace hh : Hp _ (.blk _ _ [_, _] _ :: _) _ := hh
      refine wl_end (wc_seq (sr (faC ?_)))
      refine l1C hh 2 ?_
      refine mB ?_
      first | refine gS ?_ | (refine gT ?_; refine faC ?_) | refine gV ?_
      first | refine gS ?_ | (refine gT ?_; refine l1C hh 2 ?_) | refine gV ?_
      refine wl_guard_take rfl rfl ?_
      refine s_callf (natLen_calls a _ (by omega)) FnIs.out rfl (by decide) ?_
      rintro e_ w32 ⟨rfl, hb_⟩
      refine ⟨_, rfl, ?_⟩
      replace hh := hh.ext hb_
      rw [hz, blen_zero]
      first | refine gS ?_ | (refine gT ?_; refine gtrC ?_) | refine gV ?_
      first | refine pkT ?_ | refine pkF ?_
      refine mB ?_
      first | refine gS ?_ | (refine gT ?_; refine faC ?_) | refine gV ?_
      first | refine gS ?_ | (refine gT ?_; refine l1C hh 2 ?_) | refine gV ?_
      refine wl_guard_skip (by decide) rfl rfl (by decide) ?_
      first | refine gS ?_ | (refine gT ?_; refine mI ?_) | refine gV ?_
      first | refine gS ?_ | (refine gT ?_; refine s_negi rfl (by omega) (by omega) (by decide) ?_) | refine gV ?_
      first | refine gS ?_ | (refine gT ?_; refine lssC ?_) | refine gV ?_
      first | refine pkT ?_ | refine pkF ?_
      refine wl_end (cF (wc_skip (k_then (sr ?_))))
      refine lgC hh 0 [_,_] ?_
      refine stC hh 1 [_,_] ?_
      intro ws hh
      replace hh : Hp _ (_ :: .blk _ _ [_, _] _ :: _) _ := hh
      refine wl_end (wc_ret ?_)
      refine retc1 (by first | exact .inr rfl | exact .inl rfl) rfl (r_cell rfl (lv_agg (vs := [_, _]) TIs.out (hh.rd_blk_at (i := 1) (n := 2) rfl rfl) rfl) r_nil) ?_
      exact ⟨rfl, hh.below⟩
    · have hbp := blen_pos hz
      by_cases hd : 2 ^ m ∣ bN a
      · have e3 : iv true (sN (bN a / 2 ^ m)) = iv true a / 2 ^ m := by
          rw [e4, e5]; exact div_neg_pow _ _ hd
        have htz := (dvd_tz hz).1 hd
        refine calls_vc (N := 47) (l := [.agg #[.bool true, .string a], .int .i64 (-(m : Int))]) Tryz.func110 rfl rfl (by simp) ?_
        refine sr ?_
        refine bxC hh [_,_] ?_
        intro b2 w2 hh
        refine alC hh ?_
        intro b4 w4 hh
        refine wl_end (wc_seq (sr (mI ?_)))
        refine geqC (wl_end (cF (wc_skip (k_then (sr (mI ?_))))))
        refine s_max rfl rfl (by decide) ?_
        refine aI (wl_end (wc_seq ?_))
        rw [e1]
        refine wc_drawn 10 [[(2, none)], [(18, some 0)], [(1, none)], [(20, some 2)], [(19, some 1), (21, some 3)], [(2, none)], [(23, some 5)], [(22, some 4), (24, some 6)], [(25, some 7)], []] [(9, 5), (8, 26), (7, 25), (6, 24), (5, 23), (4, 22), (3, 21), (2, 20), (1, 19), (0, 18)] hh mixed (by kernel_rfl) ?_
        refine dfa ?_
        refine dl1 1 ?_
        refine dmI ?_
        refine dx_val (i := 3) (fun ρ1 w1 hj hR => x_negi (show ρ1 20 = Value.int _ _ from hR.1) (by omega) (by omega)) ?_
        refine dC (fun _ hj => hcs _) ?_
        refine dfa ?_
        refine dl1 1 ?_
        refine dB [_,_] ?_
        refine dC (fun _ hj => wmade_calls true (sN (bN a / 2 ^ m)) _) ?_
        refine dx_gen (i := 9) (NewVar _ 23 _) NewVar.ext (fun ρ1 w1 hj hR => og_alloc TIs.out hj.bl (fun v w2 h hb => ⟨hb, h⟩)) ?_
        refine dx_nil ?_
        intro f W hJ hV
        have hb_4 := hJ.bl
        obtain ⟨v5, v26, v25, v24, v23, v22, v21, v20, v19, v18, _⟩ := hV
        obtain ⟨b5, e5, hl5, hc5⟩ : NewVar _ _ _ (f 9) W := v5
        replace hh := hJ.newVar hh hl5 hc5
        refine wl_cast (updL_K (eql_cons e5 (eql_cons v26 (eql_cons v25 (eql_cons v24 (eql_cons v23 (eql_cons v22 (eql_cons v21 (eql_cons v20 (eql_cons v19 (eql_cons v18 eql_nil))))))))))) ?_
        dsimp only [updK]
        clear e5 hJ
        rw [e3]
        refine stC hh 0 [_,_] ?_
        intro ws hh
        replace hh : Hp _ (.blk _ _ [_, _] _ :: _) _ := hh
        refine wl_end (wc_seq (sr (faC ?_)))
        refine l1C hh 2 ?_
        refine mB ?_
        first | refine gS ?_ | (refine gT ?_; refine faC ?_) | refine gV ?_
        first | refine gS ?_ | (refine gT ?_; refine l1C hh 2 ?_) | refine gV ?_
        refine wl_guard_take rfl rfl ?_
        refine s_callf (natLen_calls a _ (by omega)) FnIs.out rfl (by decide) ?_
        rintro e_ w32 ⟨rfl, hb_⟩
        refine ⟨_, rfl, ?_⟩
        replace hh := hh.ext hb_
        first | refine gS ?_ | (refine gT ?_; refine gtrC ?_) | refine gV ?_
        first | refine pkT ?_ | refine pkF ?_
        refine mB ?_
        first | refine gS ?_ | (refine gT ?_; refine faC ?_) | refine gV ?_
        first | refine gS ?_ | (refine gT ?_; refine l1C hh 2 ?_) | refine gV ?_
        refine wl_guard_take rfl rfl ?_
        refine s_callf (natZeros_calls a _ (by omega) (hT.hp hh)) FnIs.out rfl (by decide) ?_
        rintro e_ w38 ⟨rfl, hb_⟩
        refine ⟨_, rfl, ?_⟩
        replace hh := hh.ext hb_
        first | refine gS ?_ | (refine gT ?_; refine mI ?_) | refine gV ?_
        first | refine gS ?_ | (refine gT ?_; refine s_negi rfl (by omega) (by omega) (by decide) ?_) | refine gV ?_
        first | refine gS ?_ | (refine gT ?_; refine lssC ?_) | refine gV ?_
        first | refine pkT ?_ | refine pkF ?_
        refine wl_end (cF (wc_skip (k_then (sr ?_))))
        refine lgC hh 0 [_,_] ?_
        refine stC hh 1 [_,_] ?_
        intro ws hh
        replace hh : Hp _ (_ :: .blk _ _ [_, _] _ :: _) _ := hh
        refine wl_end (wc_ret ?_)
        refine retc1 (by first | exact .inr rfl | exact .inl rfl) rfl (r_cell rfl (lv_agg (vs := [_, _]) TIs.out (hh.rd_blk_at (i := 1) (n := 2) rfl rfl) rfl) r_nil) ?_
        exact ⟨rfl, hh.below⟩
      · have e3 : iv true (sN (bN a / 2 ^ m)) - 1 = iv true a / 2 ^ m := by
          rw [e4, e5]; exact div_neg_pow' _ _ hd
        have htz : tz (bN a) < m := Nat.lt_of_not_le fun h => hd ((dvd_tz hz).2 h)
        have hsz : (iM (iv true (sN (bN a / 2 ^ m)))).size ≤ 100000000 := by
          have := blen_div_pow (bN a) m
          rw [iM_size, iv_abs, bN_sN]; omega
        have hsub : ∀ w1, Calls Tryz.prog 115 #[.agg #[.bool (iN (iv true (sN (bN a / 2 ^ m)))), .string (iM (iv true (sN (bN a / 2 ^ m))))], .agg #[.bool (iN 1), .string (iM 1)]] w1 fun e w' => e = .returned (.agg #[.bool (iN (iv true a / 2 ^ m)), .string (iM (iv true a / 2 ^ m))]) ∧ Below w1.heap.size w1 w' := fun w1 => by
          have := wSub_calls (iN (iv true (sN (bN a / 2 ^ m)))) (iN 1) (iM (iv true (sN (bN a / 2 ^ m)))) (iM 1) w1 hsz (by rw [iM_size, Int.natAbs_one, blen_one]; omega)
          rw [iv_of, iv_of, e3] at this
          exact this
        refine calls_vc (N := 47) (l := [.agg #[.bool true, .string a], .int .i64 (-(m : Int))]) Tryz.func110 rfl rfl (by simp) ?_
        refine sr ?_
        refine bxC hh [_,_] ?_
        intro b2 w2 hh
        refine alC hh ?_
        intro b4 w4 hh
        refine wl_end (wc_seq (sr (mI ?_)))
        refine geqC (wl_end (cF (wc_skip (k_then (sr (mI ?_))))))
        refine s_max rfl rfl (by decide) ?_
        refine aI (wl_end (wc_seq ?_))
        rw [e1]
        refine wc_drawn 10 [[(2, none)], [(18, some 0)], [(1, none)], [(20, some 2)], [(19, some 1), (21, some 3)], [(2, none)], [(23, some 5)], [(22, some 4), (24, some 6)], [(25, some 7)], []] [(9, 5), (8, 26), (7, 25), (6, 24), (5, 23), (4, 22), (3, 21), (2, 20), (1, 19), (0, 18)] hh mixed (by kernel_rfl) ?_
        refine dfa ?_
        refine dl1 1 ?_
        refine dmI ?_
        refine dx_val (i := 3) (fun ρ1 w1 hj hR => x_negi (show ρ1 20 = Value.int _ _ from hR.1) (by omega) (by omega)) ?_
        refine dC (fun _ hj => hcs _) ?_
        refine dfa ?_
        refine dl1 1 ?_
        refine dB [_,_] ?_
        refine dC (fun _ hj => wmade_calls true (sN (bN a / 2 ^ m)) _) ?_
        refine dx_gen (i := 9) (NewVar _ 23 _) NewVar.ext (fun ρ1 w1 hj hR => og_alloc TIs.out hj.bl (fun v w2 h hb => ⟨hb, h⟩)) ?_
        refine dx_nil ?_
        intro f W hJ hV
        have hb_4 := hJ.bl
        obtain ⟨v5, v26, v25, v24, v23, v22, v21, v20, v19, v18, _⟩ := hV
        obtain ⟨b5, e5, hl5, hc5⟩ : NewVar _ _ _ (f 9) W := v5
        replace hh := hJ.newVar hh hl5 hc5
        refine wl_cast (updL_K (eql_cons e5 (eql_cons v26 (eql_cons v25 (eql_cons v24 (eql_cons v23 (eql_cons v22 (eql_cons v21 (eql_cons v20 (eql_cons v19 (eql_cons v18 eql_nil))))))))))) ?_
        dsimp only [updK]
        clear e5 hJ
        refine stC hh 0 [_,_] ?_
        intro ws hh
        replace hh : Hp _ (.blk _ _ [_, _] _ :: _) _ := hh
        refine wl_end (wc_seq (sr (faC ?_)))
        refine l1C hh 2 ?_
        refine mB ?_
        first | refine gS ?_ | (refine gT ?_; refine faC ?_) | refine gV ?_
        first | refine gS ?_ | (refine gT ?_; refine l1C hh 2 ?_) | refine gV ?_
        refine wl_guard_take rfl rfl ?_
        refine s_callf (natLen_calls a _ (by omega)) FnIs.out rfl (by decide) ?_
        rintro e_ w32 ⟨rfl, hb_⟩
        refine ⟨_, rfl, ?_⟩
        replace hh := hh.ext hb_
        first | refine gS ?_ | (refine gT ?_; refine gtrC ?_) | refine gV ?_
        first | refine pkT ?_ | refine pkF ?_
        refine mB ?_
        first | refine gS ?_ | (refine gT ?_; refine faC ?_) | refine gV ?_
        first | refine gS ?_ | (refine gT ?_; refine l1C hh 2 ?_) | refine gV ?_
        refine wl_guard_take rfl rfl ?_
        refine s_callf (natZeros_calls a _ (by omega) (hT.hp hh)) FnIs.out rfl (by decide) ?_
        rintro e_ w38 ⟨rfl, hb_⟩
        refine ⟨_, rfl, ?_⟩
        replace hh := hh.ext hb_
        first | refine gS ?_ | (refine gT ?_; refine mI ?_) | refine gV ?_
        first | refine gS ?_ | (refine gT ?_; refine s_negi rfl (by omega) (by omega) (by decide) ?_) | refine gV ?_
        first | refine gS ?_ | (refine gT ?_; refine lssC ?_) | refine gV ?_
        first | refine pkT ?_ | refine pkF ?_
        refine wl_end (cT (wc_seq ?_))
        refine wc_drawn 2 [[(5, none)], []] [(1, 44), (0, 43)] hh mixed (by kernel_rfl) ?_
        refine dlg 0 [_,_] ?_
        refine dC (fun _ hj => wOf_calls 1 _ (by omega) (by omega)) ?_
        refine dx_nil ?_
        intro f W hJ hV
        have hb_6 := hJ.bl
        obtain ⟨v44, v43, _⟩ := hV
        replace hh := hJ.hp
        refine wl_cast (updL_K (eql_cons v44 (eql_cons v43 eql_nil))) ?_
        dsimp only [updK]
        clear hJ
        refine s_callf (hsub _) FnIs.out rfl (by decide) ?_
        rintro e_ w45 ⟨rfl, hb_⟩
        refine ⟨_, rfl, ?_⟩
        replace hh := hh.ext hb_
        refine stC hh 1 [_,_] ?_
        intro ws hh
        replace hh : Hp _ (_ :: .blk _ _ [_, _] _ :: _) _ := hh
        refine wl_end (wc_ret (k_ret ?_))
        refine retc1 (by first | exact .inr rfl | exact .inl rfl) rfl (r_cell rfl (lv_agg (vs := [_, _]) TIs.out (hh.rd_blk_at (i := 1) (n := 2) rfl rfl) rfl) r_nil) ?_
        exact ⟨rfl, hh.below⟩
end Go.Proofs.YthmmofllajkejaaGreatDoor

/- Dyadic numbers: the program's numbers and Init's Dyadic. Plain lemmas, no program in sight. -/
namespace Go.Proofs.YthmmofllajkejaaGreatDoor
open Go.RowKit
theorem two_ne : (2 : Rat) ≠ 0 := by decide
theorem two_pos (k : Int) : (0 : Rat) < 2 ^ k := Rat.zpow_pos (by decide)
theorem owp_rat (i p : Int) : (Dyadic.ofIntWithPrec i p).toRat = i * 2 ^ (-p) := Dyadic.toRat_ofIntWithPrec_eq_mul_two_pow
theorem owp_scale (i p : Int) (n : Nat) : Dyadic.ofIntWithPrec (i * 2 ^ n) (p + n) = Dyadic.ofIntWithPrec i p := by
  rw [← Int.shiftLeft_eq]; exact Dyadic.ofIntWithPrec_shiftLeft_add
theorem owp_scale' (i : Int) {p q : Int} {n : Nat} (h : q = p + n) : Dyadic.ofIntWithPrec i p = Dyadic.ofIntWithPrec (i * 2 ^ n) q := by
  subst h; exact (owp_scale i p n).symm
theorem owp_add (i j p : Int) : Dyadic.ofIntWithPrec i p + Dyadic.ofIntWithPrec j p = Dyadic.ofIntWithPrec (i + j) p := by
  rw [← Dyadic.toRat_inj, Dyadic.toRat_add, owp_rat, owp_rat, owp_rat, Rat.intCast_add, Rat.add_mul]
theorem owp_neg (i p : Int) : -Dyadic.ofIntWithPrec i p = Dyadic.ofIntWithPrec (-i) p := Dyadic.neg_ofIntWithPrec
theorem owp_sub (i j p : Int) : Dyadic.ofIntWithPrec i p - Dyadic.ofIntWithPrec j p = Dyadic.ofIntWithPrec (i - j) p := by
  show Dyadic.ofIntWithPrec i p + -Dyadic.ofIntWithPrec j p = _
  rw [owp_neg, owp_add, Int.sub_eq_add_neg]
theorem owp_mul (i j p q : Int) : Dyadic.ofIntWithPrec i p * Dyadic.ofIntWithPrec j q = Dyadic.ofIntWithPrec (i * j) (p + q) := by
  rw [← Dyadic.toRat_inj, Dyadic.toRat_mul, owp_rat, owp_rat, owp_rat, Rat.intCast_mul, Int.neg_add, Rat.zpow_add two_ne]
  grind
theorem owp_lt (i j p : Int) : Dyadic.ofIntWithPrec i p < Dyadic.ofIntWithPrec j p ↔ i < j := by
  rw [← Dyadic.toRat_lt_toRat_iff, owp_rat, owp_rat]
  rw [← Rat.intCast_lt_intCast]
  constructor
  · intro h
    exact Rat.lt_of_mul_lt_mul_right h (Rat.le_of_lt (two_pos _))
  · intro h
    exact Rat.mul_lt_mul_of_pos_right h (two_pos _)
theorem owp_zero (p : Int) : Dyadic.ofIntWithPrec 0 p = 0 := rfl
theorem owp_inj {i j p : Int} (h : Dyadic.ofIntWithPrec i p = Dyadic.ofIntWithPrec j p) : i = j := by
  rcases Int.lt_trichotomy i j with h1 | h1 | h1
  · rw [← owp_lt i j p, h] at h1
    exact absurd h1 (by rw [owp_lt]; omega)
  · exact h1
  · rw [← owp_lt j i p, h] at h1
    exact absurd h1 (by rw [owp_lt]; omega)
theorem owp_eq_zero {i p : Int} (h : Dyadic.ofIntWithPrec i p = 0) : i = 0 := owp_inj (p := p) (by rw [h]; rfl)
theorem odd_owp (n k : Int) (h : n % 2 = 1) : Dyadic.ofOdd n k h = Dyadic.ofIntWithPrec n k := Dyadic.ofOdd_eq_ofIntWithPrec
/-- Where there is an odd number among those that have it with some precision. -/
theorem owp_odd {i p : Int} (h : i ≠ 0) : Dyadic.ofIntWithPrec i p = .ofOdd (i >>> i.trailingZeros) (p - i.trailingZeros) (Int.shiftRight_trailingZeros_mod_two h) := by
  rw [Dyadic.ofIntWithPrec, dif_neg h]
structure NR where
  neg : Bool
  mag : ByteArray
  e : Int
def NR.cells (a : NR) : List Value := [.bool a.neg, .string a.mag, .int .i64 a.e]
theorem NR.len (a : NR) : a.cells.length = 3 := rfl
theorem NR.one (a : NR) : a.cells.all Value.oneCell' = true := rfl
def NR.i (a : NR) : Int := iv a.neg a.mag
def NR.d (a : NR) : Dyadic := Dyadic.ofIntWithPrec a.i (-a.e)
/-- The one form. -/
def nR : Dyadic → NR
  | .zero => ⟨false, ByteArray.mk #[], 0⟩
  | .ofOdd n k _ => ⟨iN n, iM n, -k⟩
theorem nR_zero : nR 0 = ⟨false, ByteArray.mk #[], 0⟩ := rfl
theorem nR_d (x : Dyadic) : (nR x).d = x := by
  cases x with
  | zero => rfl
  | ofOdd n k h =>
    simp only [nR, NR.d, NR.i, iv_of, Int.neg_neg]
    exact (odd_owp n k h).symm
theorem nR_inj {x y : Dyadic} : nR x = nR y ↔ x = y := ⟨fun h => by rw [← nR_d x, h, nR_d], fun h => by rw [h]⟩
theorem nR_ne {x y : Dyadic} (h : x ≠ y) : ¬ nR x = nR y := fun he => h (nR_inj.1 he)
theorem tz_iv (s : Bool) (a : ByteArray) : (iv s a).trailingZeros = tz (bN a) := by
  unfold iv
  split
  · rw [Int.trailingZeros_neg]; rfl
  · rfl
theorem iv_zero (s : Bool) (a : ByteArray) : iv s a = 0 ↔ bN a = 0 := by
  have := iv_abs s a
  omega
theorem make_spec {s : Bool} {a : ByteArray} {e : Int} (h : iv s a ≠ 0) : nR (Dyadic.ofIntWithPrec (iv s a) (-e)) = ⟨iN (iv s a / 2 ^ tz (bN a)), iM (iv s a / 2 ^ tz (bN a)), e + tz (bN a)⟩ := by
  rw [owp_odd h, nR, Int.shiftRight_eq_div_pow, tz_iv]
  have e1 : -(-e - (tz (bN a) : Int)) = e + tz (bN a) := by omega
  rw [e1, Int.natCast_pow]
  rfl
/-- At most so great, and a multiple of so small a power. -/
def Sz (k : Nat) (x : Dyadic) : Prop := ∃ i : Int, x = Dyadic.ofIntWithPrec i k ∧ i.natAbs < 2 ^ (2 * k)
theorem Sz.zero (k : Nat) : Sz k 0 := ⟨0, rfl, by simpa using Nat.pow_pos (by omega)⟩
theorem Sz.mono {k l : Nat} {x : Dyadic} (h : Sz k x) (hl : k ≤ l) : Sz l x := by
  obtain ⟨i, rfl, hi⟩ := h
  refine ⟨i * 2 ^ (l - k), owp_scale' i (by omega), ?_⟩
  rw [Int.natAbs_mul, Int.natAbs_pow]
  have h1 : i.natAbs * 2 ^ (l - k) < 2 ^ (2 * k) * 2 ^ (l - k) := Nat.mul_lt_mul_of_pos_right hi (Nat.pow_pos (by omega))
  rw [← Nat.pow_add] at h1
  exact Nat.lt_of_lt_of_le h1 (Nat.pow_le_pow_right (by omega) (by omega))
theorem Sz.neg {k : Nat} {x : Dyadic} (h : Sz k x) : Sz k (-x) := by
  obtain ⟨i, rfl, hi⟩ := h
  exact ⟨-i, owp_neg _ _, by rw [Int.natAbs_neg]; exact hi⟩
theorem Sz.add {k : Nat} {x y : Dyadic} (hx : Sz k x) (hy : Sz k y) : Sz (k + 1) (x + y) := by
  obtain ⟨i, rfl, hi⟩ := hx
  obtain ⟨j, rfl, hj⟩ := hy
  rw [owp_add]
  refine ⟨(i + j) * 2 ^ 1, owp_scale' _ (by omega), ?_⟩
  have h1 : 2 ^ (2 * (k + 1)) = 4 * 2 ^ (2 * k) := by rw [show 2 * (k + 1) = 2 * k + 2 by omega, Nat.pow_add]; omega
  rw [h1]
  omega
theorem Sz.sub {k : Nat} {x y : Dyadic} (hx : Sz k x) (hy : Sz k y) : Sz (k + 1) (x - y) := hx.add hy.neg
theorem Sz.mul {k l : Nat} {x y : Dyadic} (hx : Sz k x) (hy : Sz l y) : Sz (k + l) (x * y) := by
  obtain ⟨i, rfl, hi⟩ := hx
  obtain ⟨j, rfl, hj⟩ := hy
  rw [owp_mul]
  refine ⟨i * j, by rw [Int.natCast_add], ?_⟩
  rw [Int.natAbs_mul, Nat.mul_add, Nat.pow_add]
  exact Nat.mul_lt_mul'' hi hj
theorem two_pow_le_of_tz {i : Int} (h : i ≠ 0) : 2 ^ i.trailingZeros ≤ i.natAbs := by
  have h1 := Int.two_pow_trailingZeros_dvd h
  have h2 := Int.natAbs_dvd_natAbs.2 h1
  rw [Int.natAbs_pow] at h2
  exact Nat.le_of_dvd (by omega) h2
theorem Sz.nr {k : Nat} {x : Dyadic} (h : Sz k x) : (nR x).mag.size ≤ (2 * k + 7) / 8 ∧ -(k : Int) ≤ (nR x).e ∧ (nR x).e ≤ k := by
  obtain ⟨i, rfl, hi⟩ := h
  by_cases h0 : i = 0
  · subst h0
    rw [owp_zero, nR_zero]
    exact ⟨Nat.zero_le _, (by omega : -(k : Int) ≤ 0), (by omega : (0 : Int) ≤ k)⟩
  · have h2 := two_pow_le_of_tz h0
    rw [owp_odd h0, nR]
    simp only
    refine ⟨?_, by omega, ?_⟩
    · rw [iM_size]
      have : blen (i >>> i.trailingZeros).natAbs ≤ 2 * k := by
        apply blen_le
        refine Nat.lt_of_le_of_lt ?_ hi
        rw [Int.shiftRight_eq_div_pow]
        exact Int.natAbs_ediv_le_natAbs _ _
      omega
    · have h3 : 2 ^ i.trailingZeros < 2 ^ (2 * k) := Nat.lt_of_le_of_lt h2 hi
      have := (Nat.pow_lt_pow_iff_right (by omega)).1 h3
      omega
theorem Sz.raw {a : NR} {m E : Nat} (hm : 8 * a.mag.size ≤ m) (h1 : -(E : Int) ≤ a.e) (h2 : a.e ≤ E) : Sz (m + E) a.d := by
  refine ⟨a.i * 2 ^ (a.e + m + E).toNat, owp_scale' _ (by omega), ?_⟩
  have h3 : a.i.natAbs < 2 ^ m := by
    rw [NR.i, iv_abs]
    refine Nat.lt_of_lt_of_le (lt_blen _) (Nat.pow_le_pow_right (by omega) ?_)
    have := bN_blen a.mag
    omega
  rw [Int.natAbs_mul, Int.natAbs_pow]
  have h4 := Nat.mul_lt_mul_of_pos_right h3 (Nat.pow_pos (n := (a.e + m + E).toNat) (show 0 < 2 by omega))
  rw [← Nat.pow_add] at h4
  exact Nat.lt_of_lt_of_le h4 (Nat.pow_le_pow_right (by omega) (by omega))
/-- A whole number moved by so many bits, down where it is below 0. -/
def shI (i n : Int) : Int := if 0 ≤ n then i * 2 ^ n.toNat else i / 2 ^ (-n).toNat
theorem shI_zero (n : Int) : shI 0 n = 0 := by unfold shI; split <;> simp
/-- A dyadic number as a multiple of 2^-p. -/
def intAt : Dyadic → Int → Int
  | .zero, _ => 0
  | .ofOdd n k _, p => shI n (p - k)
/-- The precision of two. -/
def lvlP : Dyadic → Dyadic → Int
  | .zero, .zero => 0
  | .zero, .ofOdd _ k _ => k
  | .ofOdd _ k _, .zero => k
  | .ofOdd _ k _, .ofOdd _ l _ => max k l
theorem intAt_owp (n k p : Int) (h : n % 2 = 1) (hp : k ≤ p) : Dyadic.ofIntWithPrec (intAt (.ofOdd n k h) p) p = .ofOdd n k h := by
  simp only [intAt]
  rw [odd_owp, shI, if_pos (by omega)]
  exact (owp_scale' n (by omega)).symm
theorem lvl_x (x y : Dyadic) : Dyadic.ofIntWithPrec (intAt x (lvlP x y)) (lvlP x y) = x := by
  cases x with
  | zero => rfl
  | ofOdd n k h =>
    cases y with
    | zero => exact intAt_owp _ _ _ _ (Int.le_refl _)
    | ofOdd m l g => exact intAt_owp _ _ _ _ (Int.le_max_left _ _)
theorem lvl_y (x y : Dyadic) : Dyadic.ofIntWithPrec (intAt y (lvlP x y)) (lvlP x y) = y := by
  cases y with
  | zero => rfl
  | ofOdd n k h =>
    cases x with
    | zero => exact intAt_owp _ _ _ _ (Int.le_refl _)
    | ofOdd m l g => exact intAt_owp _ _ _ _ (Int.le_max_right _ _)
theorem lvl_sum (x y : Dyadic) : Dyadic.ofIntWithPrec (intAt x (lvlP x y) + intAt y (lvlP x y)) (lvlP x y) = x + y := by
  rw [← owp_add, lvl_x, lvl_y]
theorem blen_shI (i n : Int) : blen (shI i n).natAbs ≤ blen i.natAbs + n.toNat := by
  unfold shI
  split
  · rw [Int.natAbs_mul, Int.natAbs_pow]
    exact blen_mul_pow _ _
  · have : blen (i / 2 ^ (-n).toNat).natAbs ≤ blen i.natAbs := blen_le (Nat.lt_of_le_of_lt (Int.natAbs_ediv_le_natAbs _ _) (lt_blen _))
    omega
theorem nR_e (x : Dyadic) : -(nR x).e = match x with | .zero => 0 | .ofOdd _ k _ => k := by
  cases x with
  | zero => rfl
  | ofOdd n k h => simp [nR]
theorem lvlP_bd (x y : Dyadic) (E : Int) (h1 : -E ≤ (nR x).e ∧ (nR x).e ≤ E) (h2 : -E ≤ (nR y).e ∧ (nR y).e ≤ E) : -E ≤ lvlP x y ∧ lvlP x y ≤ E := by
  cases x <;> cases y <;> simp only [nR, lvlP] at * <;> omega
theorem intAt_blen (x : Dyadic) (p : Int) : blen (intAt x p).natAbs ≤ 8 * (nR x).mag.size + (p + (nR x).e).toNat := by
  cases x with
  | zero => simp [intAt, blen_zero]
  | ofOdd n k h =>
    have h1 := blen_shI n (p - k)
    have h2 := bN_blen (iM n)
    rw [iM, bN_sN] at h2
    simp only [intAt, nR]
    rw [show p + -k = p - k by omega]
    rw [← iM] at h2
    omega
end Go.Proofs.YthmmofllajkejaaGreatDoor
