/- The walks through the program's natural numbers (nat): the package's own functions. -/
import Derived.Test.YthmmofllajkejaaGreatDoorNatD
namespace Go.Proofs.YthmmofllajkejaaGreatDoor
open Go.RowKit
-- umode
/-- The number that a string is; the string that a number is. -/
def bN (a : ByteArray) : Nat := bn a.data.toList
def sN (n : Nat) : ByteArray := str (sb n)
theorem bN_sN (n : Nat) : bN (sN n) = n := by rw [bN, sN, str_toList, bn_sb]
theorem sN_size (n : Nat) : (sN n).size = (blen n + 7) / 8 := by rw [sN, str_size, length_sb, len256]
theorem sN_inj {a b : Nat} (h : sN a = sN b) : a = b := by rw [← bN_sN a, h, bN_sN]
theorem sN_zero : sN 0 = ByteArray.mk #[] := by rw [sN, sb_zero]; rfl
theorem bN_lt (a : ByteArray) : bN a < 256 ^ a.size := by rw [ba_size]; exact bn_lt _
theorem bN_blen (a : ByteArray) : blen (bN a) ≤ 8 * a.size := by
  apply blen_le
  have := bN_lt a
  rwa [show (256 : Nat) = 2 ^ 8 from rfl, ← Nat.pow_mul] at this
theorem limbs_len {n k : Nat} (h : n < 256 ^ k) : (digs 18446744073709551616 n).length ≤ (k + 7) / 8 := by
  apply digs_len_le (by omega)
  refine Nat.lt_of_lt_of_le h ?_
  rw [show (256 : Nat) = 2 ^ 8 from rfl, show (18446744073709551616 : Nat) = 2 ^ 64 from rfl, ← Nat.pow_mul, ← Nat.pow_mul]
  exact Nat.pow_le_pow_right (by omega) (by omega)
theorem bN_limbs (a : ByteArray) : (digs 18446744073709551616 (bN a)).length ≤ (a.size + 7) / 8 := limbs_len (bN_lt a)
theorem can_W (n : Nat) : Dg 18446744073709551616 (digs 18446744073709551616 n) := (can_digs (by omega) n).1
theorem dig_W (n : Nat) : dig 18446744073709551616 (digs 18446744073709551616 n) = n := dig_digs (by omega) n
theorem nof2_calls (a : ByteArray) (w : World) (ha : a.size ≤ 1000000000) :
    Calls Tryz.prog 138 #[.string a] w fun e w' => ∃ b c, e = .returned (.slice (some ⟨b, 0, none⟩) (digs 18446744073709551616 (bN a)).length c) ∧ w'.ownsRow w.heap.size 124 1 (.slice (some ⟨b, 0, none⟩) (digs 18446744073709551616 (bN a)).length c) (digs 18446744073709551616 (bN a)).length (u64s (digs 18446744073709551616 (bN a))) ∧ Below w.heap.size w w' := nof_calls a w (by omega)
theorem natOf_calls (n : Nat) (w : World) (hn : n < 18446744073709551616) :
    Calls Tryz.prog 136 #[.int .u64 (n : Int)] w fun e w' => e = .returned (.string (sN n)) ∧ Below w.heap.size w w' := by
  have hh := Hp.start w
  refine calls_vc (N := 6) (l := [.int .u64 (n : Int)]) Tryz.func136 rfl rfl (by simp) ?_
  refine wc_seq ?_
  refine wc_region ?_
  refine s_assign (ev_str rfl) (by decide) ?_
  refine wl_end ?_
  refine wc_seq ?_
  refine wc_region ?_
  refine s_move (ev_int rfl) (by decide) ?_
  refine wl_buildSlice hh (cs := [_]) UIs.out TIs.out (evp_cons (ev_int rfl) evp_nil) rfl rfl (by decide) (by decide) (by decide) rfl (by decide) ?_
  intro b4 w4 hh
  -- at some 5 := Op.call { callee := Callee.value (Operand.func 158), args := #[Operand.tmp 4], argTypes :=
  refine s_callf (ntext_calls _ _ _ [n] _ (hh.sl_row (i := 0) rfl) (Dg.cons hn Dg.nil) (Nat.le_refl _) (by omega)) FnIs.out rfl (by decide) ?_
  rintro e_ w5 ⟨rfl, hb_⟩
  refine ⟨_, rfl, ?_⟩
  replace hh := hh.ext hb_
  refine s_assign (ev_str rfl) (by decide) ?_
  refine wl_end ?_
  refine wc_ret ?_
  -- at ('end', 'ret')
  refine ret1 (by first | exact .inr rfl | exact .inl rfl) rfl (v_str rfl) ?_
  refine ⟨?_, hh.below⟩
  rw [sN]
  simp [dig]
theorem natCmp_calls (a b : ByteArray) (w : World) (ha : a.size ≤ 1000000000) (hb : b.size ≤ 1000000000) :
    Calls Tryz.prog 167 #[.string a, .string b] w fun e w' => e = .returned (.int .i64 (cmpN (bN a) (bN b))) ∧ Below w.heap.size w w' := by
  have hh := Hp.start w
  have h1 := bN_limbs a
  have h2 := bN_limbs b
  refine calls_vc (N := 10) (l := [.string a, .string b]) Tryz.func167 rfl rfl (by simp) ?_
  refine wc_seq ?_
  refine wc_region ?_
  refine s_assign (ev_int rfl) (by decide) ?_
  refine wl_end ?_
  refine wc_seq ?_
  refine wc_region ?_
  refine s_move (ev_str rfl) (by decide) ?_
  -- at some 6 := Op.call { callee := Callee.value (Operand.func 138), args := #[Operand.tmp 5], argTypes :=
  refine s_callf (nof2_calls a _ ha) FnIs.out rfl (by decide) ?_
  rintro e_ w6 ⟨A6, c6, rfl, hown_, hb_⟩
  refine ⟨_, rfl, ?_⟩
  replace hh := hh.push_new (x := .row _ _ _ _ _ _) hb_ hown_
  refine s_move (ev_str rfl) (by decide) ?_
  -- at some 8 := Op.call { callee := Callee.value (Operand.func 138), args := #[Operand.tmp 7], argTypes :=
  refine s_callf (nof2_calls b _ hb) FnIs.out rfl (by decide) ?_
  rintro e_ w8 ⟨A8, c8, rfl, hown_, hb_⟩
  refine ⟨_, rfl, ?_⟩
  replace hh := hh.push_new (x := .row _ _ _ _ _ _) hb_ hown_
  -- at some 9 := Op.call { callee := Callee.value (Operand.func 168), args := #[Operand.tmp 6, Operand.tmp 
  refine s_callf (ncmp_calls _ _ _ _ _ _ (digs 18446744073709551616 (bN a)) (digs 18446744073709551616 (bN b)) _ (hh.sl_row (i := 1) rfl) (hh.sl_row (i := 0) rfl) (can_W _) (can_W _) (hh.row_cap (i := 1) rfl) (hh.row_cap (i := 0) rfl) (by omega) (by omega)) FnIs.out rfl (by decide) ?_
  rintro e_ w9 ⟨rfl, hb_⟩
  refine ⟨_, rfl, ?_⟩
  replace hh := hh.ext hb_
  rw [dig_W, dig_W]
  refine s_assign (ev_int rfl) (by decide) ?_
  refine wl_end ?_
  refine wc_ret ?_
  -- at ('end', 'ret')
  refine ret1 (by first | exact .inr rfl | exact .inl rfl) rfl (v_int rfl) ?_
  exact ⟨rfl, hh.below⟩
theorem natLen_calls (a : ByteArray) (w : World) (ha : a.size ≤ 1000000000) :
    Calls Tryz.prog 142 #[.string a] w fun e w' => e = .returned (.int .i64 (blen (bN a))) ∧ Below w.heap.size w w' := by
  have hh := Hp.start w
  have h1 := bN_limbs a
  refine calls_vc (N := 6) (l := [.string a]) Tryz.func142 rfl rfl (by simp) ?_
  refine wc_seq ?_
  refine wc_region ?_
  refine s_assign (ev_int rfl) (by decide) ?_
  refine wl_end ?_
  refine wc_seq ?_
  refine wc_region ?_
  refine s_move (ev_str rfl) (by decide) ?_
  -- at some 4 := Op.call { callee := Callee.value (Operand.func 138), args := #[Operand.tmp 3], argTypes :=
  refine s_callf (nof2_calls a _ ha) FnIs.out rfl (by decide) ?_
  rintro e_ w4 ⟨A4, c4, rfl, hown_, hb_⟩
  refine ⟨_, rfl, ?_⟩
  replace hh := hh.push_new (x := .row _ _ _ _ _ _) hb_ hown_
  -- at some 5 := Op.call { callee := Callee.value (Operand.func 162), args := #[Operand.tmp 4], argTypes :=
  refine s_callf (nlen_calls _ _ _ (digs 18446744073709551616 (bN a)) _ (hh.sl_row (i := 0) rfl) (can_W _) (hh.row_cap (i := 0) rfl) (by omega)) FnIs.out rfl (by decide) ?_
  rintro e_ w5 ⟨rfl, hb_⟩
  refine ⟨_, rfl, ?_⟩
  replace hh := hh.ext hb_
  rw [dig_W]
  refine s_assign (ev_int rfl) (by decide) ?_
  refine wl_end ?_
  refine wc_ret ?_
  -- at ('end', 'ret')
  refine ret1 (by first | exact .inr rfl | exact .inl rfl) rfl (v_int rfl) ?_
  exact ⟨rfl, hh.below⟩
theorem blen_mul_pow (n m : Nat) : blen (n * 2 ^ m) ≤ blen n + m := by
  apply blen_le
  rw [Nat.pow_add]
  exact Nat.mul_lt_mul_of_pos_right (lt_blen n) (Nat.pow_pos (by omega))
theorem limbs_blen (n : Nat) : (digs 18446744073709551616 n).length ≤ (blen n + 63) / 64 := by
  apply digs_len_le (by omega)
  refine Nat.lt_of_lt_of_le (lt_blen n) ?_
  rw [show (18446744073709551616 : Nat) = 2 ^ 64 from rfl, ← Nat.pow_mul]
  exact Nat.pow_le_pow_right (by omega) (by omega)
theorem natShl_calls (a : ByteArray) (m : Nat) (w : World) (ha : a.size ≤ 1000000000) (hm : m ≤ 10000000000) :
    Calls Tryz.prog 140 #[.string a, .int .i64 (m : Int)] w fun e w' => e = .returned (.string (sN (bN a * 2 ^ m))) ∧ Below w.heap.size w w' := by
  have hh := Hp.start w
  have h1 := bN_limbs a
  have h2 := limbs_blen (bN a * 2 ^ m)
  have h3 := blen_mul_pow (bN a) m
  have h4 := bN_blen a
  have e1 : (if (0 : Int) > (m : Int) then 0 else (m : Int)) = m := if_neg (by omega)
  refine calls_vc (N := 11) (l := [.string a, .int .i64 (m : Int)]) Tryz.func140 rfl rfl (by simp) ?_
  refine wc_seq ?_
  refine wc_region ?_
  refine s_assign (ev_str rfl) (by decide) ?_
  refine wl_end ?_
  refine wc_seq ?_
  refine wc_region ?_
  refine s_move (ev_str rfl) (by decide) ?_
  -- at some 6 := Op.call { callee := Callee.value (Operand.func 138), args := #[Operand.tmp 5], argTypes :=
  refine s_callf (nof2_calls a _ ha) FnIs.out rfl (by decide) ?_
  rintro e_ w6 ⟨A6, c6, rfl, hown_, hb_⟩
  refine ⟨_, rfl, ?_⟩
  replace hh := hh.push_new (x := .row _ _ _ _ _ _) hb_ hown_
  refine s_move (ev_int rfl) (by decide) ?_
  refine s_max rfl rfl (by decide) ?_
  -- at some 9 := Op.call { callee := Callee.value (Operand.func 160), args := #[Operand.tmp 6, Operand.tmp 
  rw [e1]
  refine s_callf (nup_calls _ _ _ m (digs 18446744073709551616 (bN a)) _ (hh.sl_row (i := 0) rfl) (can_W _) (by omega) hm) FnIs.out rfl (by decide) ?_
  rintro e_ w9 ⟨A9, c9, rfl, hown_, hb_⟩
  refine ⟨_, rfl, ?_⟩
  replace hh := hh.push_new (x := .row _ _ _ _ _ _) hb_ hown_
  rw [dig_W] at *
  -- at some 10 := Op.call { callee := Callee.value (Operand.func 158), args := #[Operand.tmp 9], argTypes :=
  refine s_callf (ntext_calls _ _ _ (digs 18446744073709551616 (bN a * 2 ^ m)) _ (hh.sl_row (i := 0) rfl) (can_W _) (hh.row_cap (i := 0) rfl) (by omega)) FnIs.out rfl (by decide) ?_
  rintro e_ w10 ⟨rfl, hb_⟩
  refine ⟨_, rfl, ?_⟩
  replace hh := hh.ext hb_
  rw [dig_W]
  refine s_assign (ev_str rfl) (by decide) ?_
  refine wl_end ?_
  refine wc_ret ?_
  -- at ('end', 'ret')
  refine ret1 (by first | exact .inr rfl | exact .inl rfl) rfl (v_str rfl) ?_
  exact ⟨rfl, hh.below⟩
theorem blen_div_pow (n m : Nat) : blen (n / 2 ^ m) ≤ blen n := by
  apply blen_le
  exact Nat.lt_of_le_of_lt (Nat.div_le_self _ _) (lt_blen n)
theorem natShr_calls (a : ByteArray) (m : Nat) (w : World) (ha : a.size ≤ 1000000000) (hm : m ≤ 1000000000000) :
    Calls Tryz.prog 141 #[.string a, .int .i64 (m : Int)] w fun e w' => e = .returned (.string (sN (bN a / 2 ^ m))) ∧ Below w.heap.size w w' := by
  have hh := Hp.start w
  have h1 := bN_limbs a
  have h2 := limbs_blen (bN a / 2 ^ m)
  have h3 := blen_div_pow (bN a) m
  have h4 := bN_blen a
  have e1 : (if (0 : Int) > (m : Int) then 0 else (m : Int)) = m := if_neg (by omega)
  refine calls_vc (N := 11) (l := [.string a, .int .i64 (m : Int)]) Tryz.func141 rfl rfl (by simp) ?_
  refine wc_seq ?_
  refine wc_region ?_
  refine s_assign (ev_str rfl) (by decide) ?_
  refine wl_end ?_
  refine wc_seq ?_
  refine wc_region ?_
  refine s_move (ev_str rfl) (by decide) ?_
  -- at some 6 := Op.call { callee := Callee.value (Operand.func 138), args := #[Operand.tmp 5], argTypes :=
  refine s_callf (nof2_calls a _ ha) FnIs.out rfl (by decide) ?_
  rintro e_ w6 ⟨A6, c6, rfl, hown_, hb_⟩
  refine ⟨_, rfl, ?_⟩
  replace hh := hh.push_new (x := .row _ _ _ _ _ _) hb_ hown_
  refine s_move (ev_int rfl) (by decide) ?_
  refine s_max rfl rfl (by decide) ?_
  -- at some 9 := Op.call { callee := Callee.value (Operand.func 161), args := #[Operand.tmp 6, Operand.tmp 
  rw [e1]
  refine s_callf (ndown_calls _ _ _ m (digs 18446744073709551616 (bN a)) _ (hh.sl_row (i := 0) rfl) (can_W _) (hh.row_cap (i := 0) rfl) (by omega) hm) FnIs.out rfl (by decide) ?_
  rintro e_ w9 ⟨A9, c9, rfl, hown_, hb_⟩
  refine ⟨_, rfl, ?_⟩
  replace hh := hh.push_new (x := .row _ _ _ _ _ _) hb_ hown_
  rw [dig_W] at *
  -- at some 10 := Op.call { callee := Callee.value (Operand.func 158), args := #[Operand.tmp 9], argTypes :=
  refine s_callf (ntext_calls _ _ _ (digs 18446744073709551616 (bN a / 2 ^ m)) _ (hh.sl_row (i := 0) rfl) (can_W _) (hh.row_cap (i := 0) rfl) (by omega)) FnIs.out rfl (by decide) ?_
  rintro e_ w10 ⟨rfl, hb_⟩
  refine ⟨_, rfl, ?_⟩
  replace hh := hh.ext hb_
  rw [dig_W]
  refine s_assign (ev_str rfl) (by decide) ?_
  refine wl_end ?_
  refine wc_ret ?_
  -- at ('end', 'ret')
  refine ret1 (by first | exact .inr rfl | exact .inl rfl) rfl (v_str rfl) ?_
  exact ⟨rfl, hh.below⟩
theorem sub_nat {x y : Nat} (h : y ≤ x) : subB 18446744073709551616 (digs 18446744073709551616 x) (digs 18446744073709551616 y) 0 = 0 ∧ dig 18446744073709551616 (subL 18446744073709551616 (digs 18446744073709551616 x) (digs 18446744073709551616 y) 0) = x - y := by
  have := dig_subL (B := 18446744073709551616) (by omega) (digs 18446744073709551616 x) (digs 18446744073709551616 y) 0 (can_W _) (can_W _) (by omega) (by rw [dig_W, dig_W]; omega)
  rw [dig_W, dig_W] at this
  exact ⟨this.2, by omega⟩
theorem natSub_calls (a b : ByteArray) (w : World) (ha : a.size ≤ 1000000000) (hb : b.size ≤ 1000000000) :
    Calls Tryz.prog 148 #[.string a, .string b] w fun e w' => e = .returned (.tuple #[.string (sN (bN a - bN b)), .bool (decide (bN b ≤ bN a))]) ∧ Below w.heap.size w w' := by
  have hh := Hp.start w
  have h1 := bN_limbs a
  have h2 := bN_limbs b
  by_cases hlt : bN a < bN b
  · refine calls_vc (N := 21) (l := [.string a, .string b]) Tryz.func148 rfl rfl (by simp) ?_
    refine wc_seq ?_
    refine wc_region ?_
    refine s_assign (ev_str rfl) (by decide) ?_
    refine s_assign (ev_bool rfl) (by decide) ?_
    refine wl_end ?_
    refine wc_seq ?_
    refine wc_region ?_
    refine s_move (ev_str rfl) (by decide) ?_
    -- at some 9 := Op.call { callee := Callee.value (Operand.func 138), args := #[Operand.tmp 8], argTypes :=
    refine s_callf (nof2_calls a _ ha) FnIs.out rfl (by decide) ?_
    rintro e_ w9 ⟨A9, c9, rfl, hown_, hb_⟩
    refine ⟨_, rfl, ?_⟩
    replace hh := hh.push_new (x := .row _ _ _ _ _ _) hb_ hown_
    refine s_move (ev_str rfl) (by decide) ?_
    -- at some 11 := Op.call { callee := Callee.value (Operand.func 138), args := #[Operand.tmp 10], argTypes :
    refine s_callf (nof2_calls b _ hb) FnIs.out rfl (by decide) ?_
    rintro e_ w11 ⟨A11, c11, rfl, hown_, hb_⟩
    refine ⟨_, rfl, ?_⟩
    replace hh := hh.push_new (x := .row _ _ _ _ _ _) hb_ hown_
    refine s_assign (ev_sl rfl) (by decide) ?_
    refine s_assign (ev_sl rfl) (by decide) ?_
    refine wl_end ?_
    refine wc_seq ?_
    refine wc_seq ?_
    refine wc_region ?_
    refine s_move (ev_sl rfl) (by decide) ?_
    refine s_move (ev_sl rfl) (by decide) ?_
    -- at some 14 := Op.call { callee := Callee.value (Operand.func 168), args := #[Operand.tmp 12, Operand.tmp
    refine s_callf (ncmp_calls _ _ _ _ _ _ (digs 18446744073709551616 (bN a)) (digs 18446744073709551616 (bN b)) _ (hh.sl_row (i := 1) rfl) (hh.sl_row (i := 0) rfl) (can_W _) (can_W _) (hh.row_cap (i := 1) rfl) (hh.row_cap (i := 0) rfl) (by omega) (by omega)) FnIs.out rfl (by decide) ?_
    rintro e_ w14 ⟨rfl, hb_⟩
    refine ⟨_, rfl, ?_⟩
    replace hh := hh.ext hb_
    rw [dig_W, dig_W, cmpN_lt hlt]
    first | refine s_lss_t rfl rfl (by omega) (by decide) ?_ | refine s_lss_f rfl rfl (by omega) (by decide) ?_ | refine s_lss_v rfl rfl (by decide) ?_
    refine wl_end ?_
    refine wc_cond_t rfl ?_
    refine wc_seq ?_
    refine wc_region ?_
    refine s_assign (ev_str rfl) (by decide) ?_
    refine s_assign (ev_bool rfl) (by decide) ?_
    refine wl_end ?_
    refine wc_ret ?_
    refine k_ret ?_
    -- at ('end', 'ret')
    refine ret2 (by first | exact .inr rfl | exact .inl rfl) rfl (v_str rfl) (v_bool rfl) ?_
    rw [Nat.sub_eq_zero_of_le (by omega), decide_eq_false (by omega), sN_zero]
    exact ⟨rfl, hh.below⟩
  · obtain ⟨s1, s2⟩ := sub_nat (Nat.le_of_not_lt hlt)
    have hc : ¬ cmpN (bN a) (bN b) < 0 := by unfold cmpN; split <;> (try split) <;> omega
    refine calls_vc (N := 21) (l := [.string a, .string b]) Tryz.func148 rfl rfl (by simp) ?_
    refine wc_seq ?_
    refine wc_region ?_
    refine s_assign (ev_str rfl) (by decide) ?_
    refine s_assign (ev_bool rfl) (by decide) ?_
    refine wl_end ?_
    refine wc_seq ?_
    refine wc_region ?_
    refine s_move (ev_str rfl) (by decide) ?_
    -- at some 9 := Op.call { callee := Callee.value (Operand.func 138), args := #[Operand.tmp 8], argTypes :=
    refine s_callf (nof2_calls a _ ha) FnIs.out rfl (by decide) ?_
    rintro e_ w9 ⟨A9, c9, rfl, hown_, hb_⟩
    refine ⟨_, rfl, ?_⟩
    replace hh := hh.push_new (x := .row _ _ _ _ _ _) hb_ hown_
    refine s_move (ev_str rfl) (by decide) ?_
    -- at some 11 := Op.call { callee := Callee.value (Operand.func 138), args := #[Operand.tmp 10], argTypes :
    refine s_callf (nof2_calls b _ hb) FnIs.out rfl (by decide) ?_
    rintro e_ w11 ⟨A11, c11, rfl, hown_, hb_⟩
    refine ⟨_, rfl, ?_⟩
    replace hh := hh.push_new (x := .row _ _ _ _ _ _) hb_ hown_
    refine s_assign (ev_sl rfl) (by decide) ?_
    refine s_assign (ev_sl rfl) (by decide) ?_
    refine wl_end ?_
    refine wc_seq ?_
    refine wc_seq ?_
    refine wc_region ?_
    refine s_move (ev_sl rfl) (by decide) ?_
    refine s_move (ev_sl rfl) (by decide) ?_
    -- at some 14 := Op.call { callee := Callee.value (Operand.func 168), args := #[Operand.tmp 12, Operand.tmp
    refine s_callf (ncmp_calls _ _ _ _ _ _ (digs 18446744073709551616 (bN a)) (digs 18446744073709551616 (bN b)) _ (hh.sl_row (i := 1) rfl) (hh.sl_row (i := 0) rfl) (can_W _) (can_W _) (hh.row_cap (i := 1) rfl) (hh.row_cap (i := 0) rfl) (by omega) (by omega)) FnIs.out rfl (by decide) ?_
    rintro e_ w14 ⟨rfl, hb_⟩
    refine ⟨_, rfl, ?_⟩
    replace hh := hh.ext hb_
    rw [dig_W, dig_W]
    first | refine s_lss_t rfl rfl (by omega) (by decide) ?_ | refine s_lss_f rfl rfl (by omega) (by decide) ?_ | refine s_lss_v rfl rfl (by decide) ?_
    refine wl_end ?_
    refine wc_cond_f rfl ?_
    refine wc_skip ?_
    refine k_then ?_
    refine wc_seq ?_
    refine wc_region ?_
    refine s_move (ev_sl rfl) (by decide) ?_
    refine s_move (ev_sl rfl) (by decide) ?_
    -- at some 18 := Op.call { callee := Callee.value (Operand.func 169), args := #[Operand.tmp 16, Operand.tmp
    replace hh := hh.front 1 rfl
    rw [← List.append_nil (digs 18446744073709551616 (bN a)), ← List.nil_append (digs 18446744073709551616 (bN a))] at hh
    have hll := (hh.row_len (i := 0) rfl)
    rw [List.nil_append, List.append_nil] at hll
    refine s_callf (ntake_calls [] (digs 18446744073709551616 (bN a)) [] (digs 18446744073709551616 (bN b)) _ hh (fun w1 cs h => h.sl_row (i := 1) rfl) (can_W _) (can_W _) (by omega) (by omega) s1) FnIs.out rfl (by decide) ?_
    rintro e_ w_ ⟨rfl, hh⟩
    refine ⟨_, rfl, ?_⟩
    simp only [List.nil_append, List.append_nil] at hh
    refine wl_end ?_
    refine wc_seq ?_
    refine wc_region ?_
    refine s_move (ev_sl rfl) (by decide) ?_
    -- at some 20 := Op.call { callee := Callee.value (Operand.func 158), args := #[Operand.tmp 19], argTypes :
    refine s_callf (ntext_calls _ _ _ (subL 18446744073709551616 (digs 18446744073709551616 (bN a)) (digs 18446744073709551616 (bN b)) 0) _ (hh.sl_row (i := 0) rfl) (dg_subL (by omega) _ _ _) (hh.row_cap (i := 0) rfl) (by omega)) FnIs.out rfl (by decide) ?_
    rintro e_ w20 ⟨rfl, hb_⟩
    refine ⟨_, rfl, ?_⟩
    replace hh := hh.ext hb_
    rw [s2]
    refine s_assign (ev_str rfl) (by decide) ?_
    refine s_assign (ev_bool rfl) (by decide) ?_
    refine wl_end ?_
    refine wc_ret ?_
    -- at ('end', 'ret')
    refine ret2 (by first | exact .inr rfl | exact .inl rfl) rfl (v_str rfl) (v_bool rfl) ?_
    rw [decide_eq_true (by omega)]
    exact ⟨rfl, hh.below⟩
theorem dig_one_lt {m : Nat} (hm : m < 18446744073709551616) : Dg 18446744073709551616 [m] := Dg.cons hm Dg.nil
theorem natMul_calls (a b : ByteArray) (w : World) (ha : a.size ≤ 1000000000) (hb : b.size ≤ 1000000000) :
    Calls Tryz.prog 150 #[.string a, .string b] w fun e w' => e = .returned (.string (sN (bN a * bN b))) ∧ Below w.heap.size w w' := by
  have hh := Hp.start w
  have h1 := bN_limbs a
  have h2 := bN_limbs b
  refine calls_vc (N := 37) (l := [.string a, .string b]) Tryz.func150 rfl rfl (by simp) ?_
  refine wc_seq ?_
  refine wc_region ?_
  refine s_assign (ev_str rfl) (by decide) ?_
  refine wl_end ?_
  refine wc_seq ?_
  refine wc_region ?_
  refine s_move (ev_str rfl) (by decide) ?_
  -- at some 11 := Op.call { callee := Callee.value (Operand.func 138), args := #[Operand.tmp 10], argTypes :
  refine s_callf (nof2_calls a _ ha) FnIs.out rfl (by decide) ?_
  rintro e_ w11 ⟨A11, c11, rfl, hown_, hb_⟩
  refine ⟨_, rfl, ?_⟩
  replace hh := hh.push_new (x := .row _ _ _ _ _ _) hb_ hown_
  refine s_move (ev_str rfl) (by decide) ?_
  -- at some 13 := Op.call { callee := Callee.value (Operand.func 138), args := #[Operand.tmp 12], argTypes :
  refine s_callf (nof2_calls b _ hb) FnIs.out rfl (by decide) ?_
  rintro e_ w13 ⟨A13, c13, rfl, hown_, hb_⟩
  refine ⟨_, rfl, ?_⟩
  replace hh := hh.push_new (x := .row _ _ _ _ _ _) hb_ hown_
  have hxd := can_W (bN a)
  have hyd := can_W (bN b)
  have hX := dig_W (bN a)
  have hY := dig_W (bN b)
  generalize digs 18446744073709551616 (bN a) = xs at *
  generalize digs 18446744073709551616 (bN b) = ys at *
  refine s_assign (ev_sl rfl) (by decide) ?_
  refine s_assign (ev_sl rfl) (by decide) ?_
  refine wl_end ?_
  refine wc_seq ?_
  refine wc_region ?_
  refine s_move (ev_sl rfl) (by decide) ?_
  refine s_len_sl UIs.out rfl (by decide) ?_
  refine s_move (ev_sl rfl) (by decide) ?_
  refine s_len_sl UIs.out rfl (by decide) ?_
  refine s_addi rfl rfl (by omega) (by omega) (by decide) ?_
  refine s_addi rfl rfl (by omega) (by omega) (by decide) ?_
  refine wl_make (n := xs.length + ys.length + 1) hh rfl rfl (by omega) (by omega) UIs.out TIs.out rfl (by omega) (by omega) (by decide) ?_
  intro b20 w20 hh
  refine s_assign (ev_sl rfl) (by decide) ?_
  refine wl_end ?_
  refine wc_seq ?_
  refine wc_seq ?_
  refine wc_region ?_
  refine s_move (ev_sl rfl) (by decide) ?_
  refine s_len_sl UIs.out rfl (by decide) ?_
  refine s_move (ev_int rfl) (by decide) ?_
  refine wl_end ?_
  refine wc_block ?_
  -- at a loop
  rw [zrep_u64] at hh
  refine wc_loop1 [8, 9, 23, 24, 25, 26, 27, 28, 29, 30, 31, 32, 33, 34] 23
    (fun v w' => ∃ (i : Nat) (L : List Nat), i ≤ xs.length ∧ v = .int .i64 i ∧ Dg 18446744073709551616 L ∧ L.length = xs.length + ys.length + 1 ∧ dig 18446744073709551616 L = dig 18446744073709551616 (xs.take i) * dig 18446744073709551616 ys ∧ Hp w [.row (some ⟨b20, 0, none⟩) (xs.length + ys.length + 1) (xs.length + ys.length + 1) 124 1 (u64s L), .row (some ⟨A13, 0, none⟩) ys.length c13 124 1 (u64s ys), .row (some ⟨A11, 0, none⟩) xs.length c11 124 1 (u64s xs)] w')
    (fun v _ => xs.length - (intOf v).toNat) ?_ ?_
  · exact ⟨0, _, Nat.zero_le _, rfl, Dg.zeros (by omega) _, by simp, by simp [dig_zeros, dig], hh⟩
  · clear hh
    rintro ρ' v w' ⟨i, L, hi, rfl, hLd, hLl, hLv, hh⟩
    -- 
    -- 
    by_cases hlt : i < xs.length
    · obtain ⟨m, hm⟩ := get_of_lt (l := xs) (k := i) (by omega)
      have hm2 := u64s_at hm
      have hmw := hxd.at_ hm
      have hpl : (L.take i).length = i := by rw [List.length_take]; omega
      have hsl : (L.drop i).length = xs.length + ys.length + 1 - i := by rw [List.length_drop]; omega
      refine wc_seq ?_
      refine wc_region ?_
      first | refine s_lss_t rfl rfl (by omega) (by decide) ?_ | refine s_lss_f rfl rfl (by omega) (by decide) ?_ | refine s_lss_v rfl rfl (by decide) ?_
      refine wl_end ?_
      refine wc_seq ?_
      refine wc_cond_t rfl ?_
      refine wc_skip ?_
      refine k_then ?_
      refine wc_seq ?_
      refine wc_block ?_
      refine wc_seq ?_
      refine wc_region ?_
      refine s_move (ev_int rfl) (by decide) ?_
      refine s_indexRow (k := i) UIs.out TIs.size rfl rfl (by omega) (by omega) (by decide) ?_
      refine s_load1 TIs.out rfl (hh.cell_row (i := 2) rfl (by first | assumption | (simp only [Nat.mul_one]; assumption))) (by decide) ?_
      refine s_assign (ev_int rfl) (by decide) ?_
      refine s_assign (ev_int rfl) (by decide) ?_
      refine wl_end ?_
      refine wc_region ?_
      refine s_move (ev_sl rfl) (by decide) ?_
      refine s_move (ev_int rfl) (by decide) ?_
      first | refine s_cutBegin (l := i) UIs.out TIs.size rfl rfl (by omega) (by omega) (by omega) (by omega) (by decide) ?_ | refine s_cutBeginA (l := i) UIs.out TIs.size rfl rfl (by omega) (by omega) (by omega) (by omega) (by decide) ?_
      refine s_move (ev_sl rfl) (by decide) ?_
      refine s_move (ev_int rfl) (by decide) ?_
      -- at some 33 := Op.call { callee := Callee.value (Operand.func 171), args := #[Operand.tmp 30, Operand.tmp
      have hc := nplus_calls (c' := xs.length + ys.length + 1 - i) (ny := ys.length) (cy := c13) (m := m) (Y := some ⟨A13, 0, none⟩) (L.take i) (L.drop i) [] ys _ (by rw [List.append_nil, List.take_append_drop]; exact hh) (fun w1 cs h => h.sl_row (i := 1) rfl) (hLd.drop i) hyd hmw (by omega) (by omega)
      rw [hpl, hsl, List.append_nil] at hc
      rw [Nat.zero_add, Nat.mul_one]
      refine s_callf (hc) FnIs.out rfl (by decide) ?_
      rintro e_ w_ ⟨rfl, hh⟩
      refine ⟨_, rfl, ?_⟩
      have hlt1 := dig_lt (hxd.take (i + 1))
      have hlt2 := dig_lt hyd
      rw [List.length_take, Nat.min_eq_left (by omega)] at hlt1
      have hsn := dig_take_snoc (B := 18446744073709551616) hm
      have hsplit := dig_take_drop (B := 18446744073709551616) L i (by omega)
      have hnew : 18446744073709551616 ^ i * (dig 18446744073709551616 (L.drop i) + dig 18446744073709551616 ys * m + 0) + dig 18446744073709551616 (L.take i) = dig 18446744073709551616 (xs.take (i + 1)) * dig 18446744073709551616 ys := by
        rw [hsn, Nat.add_mul, ← hLv, hsplit, Nat.add_zero, Nat.mul_add, Nat.mul_assoc, Nat.mul_comm m]; omega
      have hbd : dig 18446744073709551616 (L.drop i) + dig 18446744073709551616 ys * m + 0 < 18446744073709551616 ^ (L.drop i).length := by
        refine Nat.lt_of_mul_lt_mul_left (a := 18446744073709551616 ^ i) ?_
        rw [← Nat.pow_add, hsl]
        refine Nat.lt_of_le_of_lt (Nat.le_add_right _ (dig 18446744073709551616 (L.take i))) ?_
        rw [hnew]
        refine Nat.lt_of_lt_of_le (Nat.mul_lt_mul'' hlt1 hlt2) ?_
        rw [← Nat.pow_add]
        exact Nat.pow_le_pow_right (by decide) (by omega)
      have hdp := dig_plusL (B := 18446744073709551616) (by omega) _ _ _ _ hbd
      refine wl_nil ?_
      refine b_norm ?_
      refine k_then ?_
      refine wc_region ?_
      refine s_addi rfl rfl (by omega) (by omega) (by decide) ?_
      refine s_move (ev_int rfl) (by decide) ?_
      refine wl_nil ?_
      refine k_then ?_
      -- at ('round',)
      refine ⟨⟨i + 1, L.take i ++ plusL 18446744073709551616 (L.drop i) ys m 0, by omega, rfl, (hLd.take i).append (dg_plusL (by omega) _ _ _ _), by rw [List.length_append, length_plusL, hpl, hsl]; omega, ?_, hh⟩, by show xs.length - (i + 1) < xs.length - i; omega, ?_⟩
      · rw [dig_append, hdp, hpl, Nat.add_comm]; exact hnew
      (repeat (first | exact agree_mask _ _ _ | refine agree_upd rfl ?_ | refine agree_mask2 rfl ?_))
    · obtain rfl : i = xs.length := by omega
      rw [List.take_length, hX, hY] at hLv
      refine wc_seq ?_
      refine wc_region ?_
      first | refine s_lss_t rfl rfl (by omega) (by decide) ?_ | refine s_lss_f rfl rfl (by omega) (by decide) ?_ | refine s_lss_v rfl rfl (by decide) ?_
      refine wl_end ?_
      refine wc_seq ?_
      refine wc_cond_f rfl ?_
      refine wc_exit ?_
      refine k_exit ?_
      refine k_exit ?_
      refine b_here ?_
      refine k_then ?_
      refine wc_seq ?_
      refine wc_region ?_
      refine s_move (ev_sl rfl) (by decide) ?_
      -- at some 36 := Op.call { callee := Callee.value (Operand.func 158), args := #[Operand.tmp 35], argTypes :
      refine s_callf (ntext_calls _ _ _ L _ (hh.sl_row (i := 0) rfl) hLd (Nat.le_refl _) (by omega)) FnIs.out rfl (by decide) ?_
      rintro e_ w36 ⟨rfl, hb_⟩
      refine ⟨_, rfl, ?_⟩
      replace hh := hh.ext hb_
      rw [hLv]
      refine s_assign (ev_str rfl) (by decide) ?_
      refine wl_end ?_
      refine wc_ret ?_
      -- at ('end', 'ret')
      refine ret1 (by first | exact .inr rfl | exact .inl rfl) rfl (v_str rfl) ?_
      exact ⟨rfl, hh.below⟩
theorem tz_limb {n d r k : Nat} (hd : d ≠ 0) (hdw : d < 18446744073709551616) (hn : n = 18446744073709551616 ^ k * (d + 18446744073709551616 * r)) : tz n = 64 * k + tz d := by
  obtain ⟨m, hm⟩ := tz_spec hd
  have ht : tz d < 64 := tz_lt hd (by simpa using hdw)
  have hW : (18446744073709551616 : Nat) = 2 ^ 64 := by decide
  generalize tz d = t at *
  have e : n = 2 ^ (64 * k + t) * (2 * (m + 2 ^ (63 - t) * r) + 1) := by
    rw [hn, Nat.pow_add, Nat.pow_mul, ← hW, Nat.mul_assoc]
    congr 1
    have h1 : 18446744073709551616 = 2 ^ t * (2 * 2 ^ (63 - t)) := by rw [hW, ← Nat.pow_succ', ← Nat.pow_add]; congr 1; omega
    have h2 : 18446744073709551616 * r = 2 ^ t * (2 * 2 ^ (63 - t) * r) := by rw [← Nat.mul_assoc, ← h1]
    rw [h2]
    conv => lhs; rw [hm]
    rw [← Nat.mul_add]
    congr 1
    rw [Nat.mul_add, Nat.mul_assoc]; omega
  rw [e, tz_eq]
theorem natZeros_calls (a : ByteArray) (w : World) (ha : a.size ≤ 1000000000) (hT : Tab w) :
    Calls Tryz.prog 109 #[.string a] w fun e w' => e = .returned (.int .i64 (tz (bN a))) ∧ Below w.heap.size w w' := by
  have hh := Hp.start w
  have h1 := bN_limbs a
  refine calls_vc (N := 21) (l := [.string a]) Tryz.func109 rfl rfl (by simp) ?_
  refine wc_seq ?_
  refine wc_region ?_
  refine s_assign (ev_int rfl) (by decide) ?_
  refine wl_end ?_
  refine wc_seq ?_
  refine wc_seq ?_
  refine wc_region ?_
  refine s_move (ev_str rfl) (by decide) ?_
  -- at some 6 := Op.call { callee := Callee.value (Operand.func 138), args := #[Operand.tmp 5], argTypes :=
  refine s_callf (nof2_calls a _ ha) FnIs.out rfl (by decide) ?_
  rintro e_ w6 ⟨A6, c6, rfl, hown_, hb_⟩
  refine ⟨_, rfl, ?_⟩
  replace hh := hh.push_new (x := .row _ _ _ _ _ _) hb_ hown_
  have hxd := can_W (bN a)
  have hX := dig_W (bN a)
  generalize digs 18446744073709551616 (bN a) = xs at *
  refine s_len_sl UIs.out rfl (by decide) ?_
  refine s_move (ev_int rfl) (by decide) ?_
  refine wl_end ?_
  refine wc_block ?_
  -- at a loop
  refine wc_loop1 [2, 3, 4, 8, 9, 10, 11, 12, 13, 14, 15, 16, 17, 18, 19, 20] 8
    (fun v w' => ∃ (i : Nat), i ≤ xs.length ∧ v = .int .i64 i ∧ dig 18446744073709551616 (xs.take i) = 0 ∧ Hp w [.row (some ⟨A6, 0, none⟩) xs.length c6 124 1 (u64s xs)] w')
    (fun v _ => xs.length - (intOf v).toNat) ?_ ?_
  · exact ⟨0, Nat.zero_le _, rfl, rfl, hh⟩
  · clear hh
    rintro ρ' v w' ⟨i, hi, rfl, hz, hh⟩
    -- 
    -- 
    by_cases hlt : i < xs.length
    · obtain ⟨d, hm⟩ := get_of_lt (l := xs) (k := i) (by omega)
      have hm2 := u64s_at hm
      have hmw := hxd.at_ hm
      by_cases h0 : d = 0
      · subst h0
        refine wc_seq ?_
        refine wc_region ?_
        first | refine s_lss_t rfl rfl (by omega) (by decide) ?_ | refine s_lss_f rfl rfl (by omega) (by decide) ?_ | refine s_lss_v rfl rfl (by decide) ?_
        refine wl_end ?_
        refine wc_seq ?_
        refine wc_cond_t rfl ?_
        refine wc_skip ?_
        refine k_then ?_
        refine wc_seq ?_
        refine wc_block ?_
        refine wc_seq ?_
        refine wc_region ?_
        refine s_move (ev_int rfl) (by decide) ?_
        refine s_indexRow (k := i) UIs.out TIs.size rfl rfl (by omega) (by omega) (by decide) ?_
        refine s_load1 TIs.out rfl (hh.cell_row (i := 0) rfl (by first | assumption | (simp only [Nat.mul_one]; assumption))) (by decide) ?_
        refine s_assign (ev_int rfl) (by decide) ?_
        refine s_assign (ev_int rfl) (by decide) ?_
        refine wl_end ?_
        refine wc_seq ?_
        refine wc_region ?_
        refine s_move (ev_int rfl) (by decide) ?_
        first | refine s_neq_t rfl rfl (by omega) (by decide) ?_ | refine s_neq_f rfl rfl (by omega) (by decide) ?_ | refine s_neq_v rfl rfl (by decide) ?_
        refine wl_end ?_
        refine wc_cond_f rfl ?_
        refine wc_skip ?_
        refine b_norm ?_
        refine k_then ?_
        refine wc_region ?_
        refine s_addi rfl rfl (by omega) (by omega) (by decide) ?_
        refine s_move (ev_int rfl) (by decide) ?_
        refine wl_nil ?_
        refine k_then ?_
        -- at ('round',)
        refine ⟨⟨i + 1, by omega, rfl, by rw [dig_take_snoc hm, hz]; simp, hh⟩, by show xs.length - (i + 1) < xs.length - i; omega, ?_⟩
        (repeat (first | exact agree_mask _ _ _ | refine agree_upd rfl ?_ | refine agree_mask2 rfl ?_))
      · have htz : tz (bN a) = 64 * i + tz d := by
          have h3 := dig_take_drop (B := 18446744073709551616) xs i (by omega)
          have h4 := (List.getElem?_eq_some_iff.1 hm)
          rw [hz, List.drop_eq_getElem_cons hlt, h4.2, dig, hX, Nat.zero_add] at h3
          exact tz_limb h0 hmw h3
        have ht : tz d < 64 := tz_lt h0 (by simpa using hmw)
        refine wc_seq ?_
        refine wc_region ?_
        first | refine s_lss_t rfl rfl (by omega) (by decide) ?_ | refine s_lss_f rfl rfl (by omega) (by decide) ?_ | refine s_lss_v rfl rfl (by decide) ?_
        refine wl_end ?_
        refine wc_seq ?_
        refine wc_cond_t rfl ?_
        refine wc_skip ?_
        refine k_then ?_
        refine wc_seq ?_
        refine wc_block ?_
        refine wc_seq ?_
        refine wc_region ?_
        refine s_move (ev_int rfl) (by decide) ?_
        refine s_indexRow (k := i) UIs.out TIs.size rfl rfl (by omega) (by omega) (by decide) ?_
        refine s_load1 TIs.out rfl (hh.cell_row (i := 0) rfl (by first | assumption | (simp only [Nat.mul_one]; assumption))) (by decide) ?_
        refine s_assign (ev_int rfl) (by decide) ?_
        refine s_assign (ev_int rfl) (by decide) ?_
        refine wl_end ?_
        refine wc_seq ?_
        refine wc_region ?_
        refine s_move (ev_int rfl) (by decide) ?_
        first | refine s_neq_t rfl rfl (by omega) (by decide) ?_ | refine s_neq_f rfl rfl (by omega) (by decide) ?_ | refine s_neq_v rfl rfl (by decide) ?_
        refine wl_end ?_
        refine wc_cond_t rfl ?_
        refine wc_seq ?_
        refine wc_region ?_
        refine s_move (ev_int rfl) (by decide) ?_
        refine s_muli rfl rfl (by omega) (by omega) (by decide) ?_
        refine s_move (ev_int rfl) (by decide) ?_
        -- at some 18 := Op.call { callee := Callee.value (Operand.func 139), args := #[Operand.tmp 17], argTypes :
        refine s_callf (tz64_calls _ _ hmw h0 (hT.hp hh)) FnIs.out rfl (by decide) ?_
        rintro e_ w18 ⟨rfl, hb_⟩
        refine ⟨_, rfl, ?_⟩
        replace hh := hh.ext hb_
        refine s_addi rfl rfl (by omega) (by omega) (by decide) ?_
        refine s_assign (ev_int rfl) (by decide) ?_
        refine wl_end ?_
        refine wc_ret ?_
        refine b_ret ?_
        refine k_ret ?_
        refine k_ret ?_
        refine b_ret ?_
        refine k_ret ?_
        -- at ('end', 'ret')
        refine ret1 (by first | exact .inr rfl | exact .inl rfl) rfl (v_int rfl) ?_
        refine ⟨?_, hh.below⟩
        congr 2
        omega
    · refine wc_seq ?_
      refine wc_region ?_
      first | refine s_lss_t rfl rfl (by omega) (by decide) ?_ | refine s_lss_f rfl rfl (by omega) (by decide) ?_ | refine s_lss_v rfl rfl (by decide) ?_
      refine wl_end ?_
      refine wc_seq ?_
      refine wc_cond_f rfl ?_
      refine wc_exit ?_
      refine k_exit ?_
      refine k_exit ?_
      refine b_here ?_
      refine k_then ?_
      refine wc_seq ?_
      refine wc_region ?_
      refine s_assign (ev_int rfl) (by decide) ?_
      refine wl_end ?_
      refine wc_ret ?_
      -- at ('end', 'ret')
      refine ret1 (by first | exact .inr rfl | exact .inl rfl) rfl (v_int rfl) ?_
      rw [List.take_of_length_le (by omega), hX] at hz
      rw [hz]
      exact ⟨rfl, hh.below⟩
theorem add_nat {x y k : Nat} (hx : x < 18446744073709551616 ^ k) (hy : y < 18446744073709551616 ^ k) : dig 18446744073709551616 (plusL 18446744073709551616 (digs 18446744073709551616 x ++ List.replicate (k + 1 - (digs 18446744073709551616 x).length) 0) (digs 18446744073709551616 y) 1 0) = x + y := by
  have hl := digs_len_le (B := 18446744073709551616) (by omega) hx
  have h1 : dig 18446744073709551616 (digs 18446744073709551616 x ++ List.replicate (k + 1 - (digs 18446744073709551616 x).length) 0) = x := by rw [dig_append, dig_zeros, dig_W]; simp
  have h2 : (digs 18446744073709551616 x ++ List.replicate (k + 1 - (digs 18446744073709551616 x).length) 0).length = k + 1 := by rw [List.length_append, List.length_replicate]; omega
  rw [dig_plusL (by omega), h1, dig_W]
  · omega
  · rw [h1, h2, dig_W, Nat.pow_succ]
    have : 0 < 18446744073709551616 ^ k := Nat.pow_pos (by decide)
    omega
theorem sum_snocN (l : List Nat) (x : Nat) : (l ++ [x]).sum = l.sum + x := by simp
theorem natAdd_calls (L : Option Addr) (n c : Nat) (ss : List ByteArray) (w : World) (hS : Sl w L n 1 (strs ss)) (hn : n ≤ 1000000) (hs : ∀ s ∈ ss, s.size ≤ 1000000000) :
    Calls Tryz.prog 146 #[.slice L n c] w fun e w' => e = .returned (.string (sN (ss.map bN).sum)) ∧ Below w.heap.size w w' := by
  have hsl : ss.length = n := by have := hS.1; rw [length_strs] at this; omega
  have hh := Hp.start w
  refine calls_vc (N := 31) (l := [.slice L n c]) Tryz.func146 rfl rfl (by simp) ?_
  refine wc_seq ?_
  refine wc_region ?_
  refine s_assign (ev_str rfl) (by decide) ?_
  refine wl_end ?_
  refine wc_seq ?_
  refine wc_region ?_
  refine s_assign (ev_sl rfl) (by decide) ?_
  refine wl_end ?_
  refine wc_seq ?_
  refine wc_seq ?_
  refine wc_region ?_
  refine s_move (ev_sl rfl) (by decide) ?_
  refine s_len_sl UIs.out rfl (by decide) ?_
  refine s_move (ev_int rfl) (by decide) ?_
  refine wl_end ?_
  refine wc_block ?_
  -- at a loop
  replace hh := hh.nil_row 124 1
  refine wc_loop2 [3, 5, 6, 9, 10, 11, 12, 13, 14, 15, 16, 17, 18, 19, 20, 21, 22, 23, 24, 25, 26, 27, 28] 3 9
    (fun v j w' => ∃ (i : Nat) (A : Option Addr) (c' T : Nat), i ≤ n ∧ j = .int .i64 i ∧ T = ((ss.take i).map bN).sum ∧ v = .slice A (digs 18446744073709551616 T).length c' ∧ (digs 18446744073709551616 T).length ≤ 125000001 + i ∧ Hp w [.row A (digs 18446744073709551616 T).length c' 124 1 (u64s (digs 18446744073709551616 T))] w')
    (fun _ j _ => n - (intOf j).toNat) ?_ ?_
  · exact ⟨0, none, 0, 0, Nat.zero_le _, rfl, rfl, by rw [digs_zero (by omega)]; rfl, by rw [digs_zero (by omega)]; simp, by rw [digs_zero (by omega)]; exact hh⟩
  · clear hh
    rintro ρ' v j w' ⟨i, A, c', T, hi, rfl, hT, rfl, hTl, hh⟩
    -- 
    -- 
    by_cases hlt : i < n
    · obtain ⟨s, hsi⟩ := get_of_lt (l := ss) (k := i) (by omega)
      obtain ⟨ad, rfl, hr⟩ := hS.at_ (by omega)
      have hs2 := strs_at hsi
      have hsz := hs s (List.mem_of_getElem? hsi)
      have hlx := bN_limbs s
      have hT2 : ((ss.take (i + 1)).map bN).sum = T + bN s := by rw [take_snoc hsi, List.map_append, List.map_singleton, sum_snocN, hT]
      have e1 : (if ((digs 18446744073709551616 (bN s)).length : Int) > ((digs 18446744073709551616 T).length : Int) then ((digs 18446744073709551616 (bN s)).length : Int) else ((digs 18446744073709551616 T).length : Int)) + 1 = ((max (digs 18446744073709551616 T).length (digs 18446744073709551616 (bN s)).length + 1 : Nat) : Int) := by split <;> omega
      have hb1 : T < 18446744073709551616 ^ max (digs 18446744073709551616 T).length (digs 18446744073709551616 (bN s)).length := Nat.lt_of_lt_of_le (digs_lt (by omega) T) (Nat.pow_le_pow_right (by decide) (Nat.le_max_left _ _))
      have hb2 : bN s < 18446744073709551616 ^ max (digs 18446744073709551616 T).length (digs 18446744073709551616 (bN s)).length := Nat.lt_of_lt_of_le (digs_lt (by omega) (bN s)) (Nat.pow_le_pow_right (by decide) (Nat.le_max_right _ _))
      have hadd := add_nat hb1 hb2
      -- 
      refine wc_seq ?_
      refine wc_region ?_
      first | refine s_lss_t rfl rfl (by omega) (by decide) ?_ | refine s_lss_f rfl rfl (by omega) (by decide) ?_ | refine s_lss_v rfl rfl (by decide) ?_
      refine wl_end ?_
      refine wc_seq ?_
      refine wc_cond_t rfl ?_
      refine wc_skip ?_
      refine k_then ?_
      refine wc_seq ?_
      refine wc_block ?_
      refine wc_seq ?_
      refine wc_region ?_
      refine s_indexSl UIs.out TIs.size rfl rfl rfl (by omega) (by decide) ?_
      refine s_load1 TIs.out rfl ((hr.ext hh.below).at1 (by assumption)) (by decide) ?_
      refine s_assign (ev_str rfl) (by decide) ?_
      refine wl_end ?_
      refine wc_seq ?_
      refine wc_region ?_
      refine s_move (ev_str rfl) (by decide) ?_
      -- at some 14 := Op.call { callee := Callee.value (Operand.func 138), args := #[Operand.tmp 13], argTypes :
      refine s_callf (nof2_calls s _ hsz) FnIs.out rfl (by decide) ?_
      rintro e_ w14 ⟨A14, c14, rfl, hown_, hb_⟩
      refine ⟨_, rfl, ?_⟩
      replace hh := hh.push_new (x := .row _ _ _ _ _ _) hb_ hown_
      refine s_assign (ev_sl rfl) (by decide) ?_
      refine wl_end ?_
      refine wc_seq ?_
      refine wc_region ?_
      refine s_move (ev_sl rfl) (by decide) ?_
      refine s_move (ev_sl rfl) (by decide) ?_
      refine s_len_sl UIs.out rfl (by decide) ?_
      refine s_move (ev_sl rfl) (by decide) ?_
      refine s_len_sl UIs.out rfl (by decide) ?_
      refine s_max rfl rfl (by decide) ?_
      refine s_addi rfl rfl (by omega) (by omega) (by decide) ?_
      -- at some 22 := Op.call { callee := Callee.value (Operand.func 165), args := #[Operand.tmp 15, Operand.tmp
      rw [e1]
      generalize hM : max (digs 18446744073709551616 T).length (digs 18446744073709551616 (bN s)).length = M at *
      refine s_callf (ncopied_calls _ _ _ (M + 1) _ _ (hh.sl_row (i := 1) rfl) (by omega) (by omega)) FnIs.out rfl (by decide) ?_
      rintro e_ w_ ⟨b22, rfl, hown_, hb_⟩
      refine ⟨_, rfl, ?_⟩
      replace hh := hh.push_new (x := .row _ _ _ _ _ _) hb_ hown_
      have e2 : max (M + 1) (digs 18446744073709551616 T).length = M + 1 := by omega
      rw [e2] at hh
      rw [e2]
      refine s_assign (ev_sl rfl) (by decide) ?_
      refine wl_end ?_
      refine wc_seq ?_
      refine wc_region ?_
      refine s_move (ev_sl rfl) (by decide) ?_
      refine s_move (ev_sl rfl) (by decide) ?_
      -- at some 25 := Op.call { callee := Callee.value (Operand.func 166), args := #[Operand.tmp 23, Operand.tmp
      have hc := nadd_calls (c' := M + 1) (ny := (digs 18446744073709551616 (bN s)).length) (cy := c14) (Y := some ⟨A14, 0, none⟩) [] (digs 18446744073709551616 T ++ List.replicate (M + 1 - (digs 18446744073709551616 T).length) 0) [] (digs 18446744073709551616 (bN s)) _ (by rw [List.append_nil, List.nil_append]; exact hh) (fun w1 cs h => h.sl_row (i := 1) rfl) ((can_W _).append (Dg.zeros (by omega) _)) (can_W _) (by rw [List.length_append, List.length_replicate]; omega) (by omega)
      have e3 : (digs 18446744073709551616 T ++ List.replicate (M + 1 - (digs 18446744073709551616 T).length) 0).length = M + 1 := by rw [List.length_append, List.length_replicate]; omega
      rw [e3, List.append_nil, List.nil_append] at hc
      refine s_callf (hc) FnIs.out rfl (by decide) ?_
      rintro e_ w_ ⟨rfl, hh⟩
      refine ⟨_, rfl, ?_⟩
      have hpl : (plusL 18446744073709551616 (digs 18446744073709551616 T ++ List.replicate (M + 1 - (digs 18446744073709551616 T).length) 0) (digs 18446744073709551616 (bN s)) 1 0).length = M + 1 := by rw [length_plusL, e3]
      have hpd := dg_plusL (B := 18446744073709551616) (by omega) (digs 18446744073709551616 T ++ List.replicate (M + 1 - (digs 18446744073709551616 T).length) 0) (digs 18446744073709551616 (bN s)) 1 0
      generalize plusL 18446744073709551616 (digs 18446744073709551616 T ++ List.replicate (M + 1 - (digs 18446744073709551616 T).length) 0) (digs 18446744073709551616 (bN s)) 1 0 = Z at *
      have hcz : cutL Z = digs 18446744073709551616 (T + bN s) := by rw [cutL_digs (by omega) hpd, hadd]
      have hcl := cutL_len Z
      refine wl_end ?_
      refine wc_region ?_
      refine s_move (ev_sl rfl) (by decide) ?_
      -- at some 27 := Op.call { callee := Callee.value (Operand.func 159), args := #[Operand.tmp 26], argTypes :
      refine s_callf (cut_calls _ _ _ Z _ (hh.sl_row (i := 0) rfl) (Nat.le_refl _) (by omega)) FnIs.out rfl (by decide) ?_
      rintro e_ w27 ⟨rfl, hb_⟩
      refine ⟨_, rfl, ?_⟩
      replace hh := hh.ext hb_
      replace hh := (hh.cut64 hpl).sub (List.sublist_append_left [_] _)
      rw [hcz] at *
      refine s_assign (ev_sl rfl) (by decide) ?_
      refine wl_nil ?_
      refine b_norm ?_
      refine k_then ?_
      refine wc_region ?_
      refine s_addi rfl rfl (by omega) (by omega) (by decide) ?_
      refine s_move (ev_int rfl) (by decide) ?_
      refine wl_nil ?_
      refine k_then ?_
      -- at ('round',)
      refine ⟨⟨i + 1, _, _, T + bN s, by omega, rfl, hT2.symm, rfl, by omega, hh⟩, by show n - (i + 1) < n - i; omega, ?_⟩
      (repeat (first | exact agree_mask _ _ _ | refine agree_upd rfl ?_ | refine agree_mask2 rfl ?_))
    · refine wc_seq ?_
      refine wc_region ?_
      first | refine s_lss_t rfl rfl (by omega) (by decide) ?_ | refine s_lss_f rfl rfl (by omega) (by decide) ?_ | refine s_lss_v rfl rfl (by decide) ?_
      refine wl_end ?_
      refine wc_seq ?_
      refine wc_cond_f rfl ?_
      refine wc_exit ?_
      refine k_exit ?_
      refine k_exit ?_
      refine b_here ?_
      refine k_then ?_
      refine wc_seq ?_
      refine wc_region ?_
      refine s_move (ev_sl rfl) (by decide) ?_
      -- at some 30 := Op.call { callee := Callee.value (Operand.func 158), args := #[Operand.tmp 29], argTypes :
      refine s_callf (ntext_calls _ _ _ (digs 18446744073709551616 T) _ (hh.sl_row (i := 0) rfl) (can_W _) (hh.row_cap (i := 0) rfl) (by omega)) FnIs.out rfl (by decide) ?_
      rintro e_ w30 ⟨rfl, hb_⟩
      refine ⟨_, rfl, ?_⟩
      replace hh := hh.ext hb_
      rw [dig_W]
      refine s_assign (ev_str rfl) (by decide) ?_
      refine wl_end ?_
      refine wc_ret ?_
      -- at ('end', 'ret')
      refine ret1 (by first | exact .inr rfl | exact .inl rfl) rfl (v_str rfl) ?_
      rw [List.take_of_length_le (by omega)] at hT
      rw [hT]
      exact ⟨rfl, hh.below⟩
end Go.Proofs.YthmmofllajkejaaGreatDoor
