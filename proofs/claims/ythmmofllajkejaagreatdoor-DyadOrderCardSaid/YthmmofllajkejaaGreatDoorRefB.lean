/- The walks through the document's answer for natural numbers (ogeeref01): comparing, sums, differences. -/
import Derived.Test.YthmmofllajkejaaGreatDoorRefA
namespace Go.Proofs.YthmmofllajkejaaGreatDoor
open Go.RowKit
-- umode
theorem dig_bit {xs : List Nat} (h : Dg 2 xs) (i : Nat) : dig 2 xs / 2 ^ i % 2 = (xs[i]?).getD 0 := by
  cases hi : xs[i]? with
  | some d => exact dig_get h hi
  | none =>
    rw [dig_get0 h (List.getElem?_eq_none_iff.1 hi) (by omega)]; rfl
theorem rbit_calls (A : Option Addr) (n c i : Nat) (xs : List Nat) (w : World) (hx : Sl w A n 1 (u8n xs)) (hd : Dg 2 xs) (hn : n ≤ 1000000000000) (hi : i ≤ 1000000000000) :
    Calls Tryz.prog 186 #[.slice A n c, .int .i64 (i : Int)] w fun e w' => e = .returned (.int .u8 ((dig 2 xs / 2 ^ i % 2 : Nat) : Int)) ∧ Below w.heap.size w w' := by
  have hl := hx.1
  rw [length_u8n] at hl
  have hh := Hp.start w
  rw [dig_bit hd]
  by_cases hlt : i < n
  · obtain ⟨d, hdi⟩ := get_of_lt (l := xs) (k := i) (by omega)
    obtain ⟨ad, rfl, hr⟩ := hx.at_ (by omega)
    have hd2 := u8n_at hdi
    rw [hdi]
    refine calls_vc (N := 13) (l := [.slice (some ad) n c, .int .i64 (i : Int)]) Tryz.func186 rfl rfl (by simp) ?_
    -- 
    refine wc_seq ?_
    refine wc_region ?_
    refine s_assign (ev_int rfl) (by decide) ?_
    refine wl_end ?_
    refine wc_seq ?_
    refine wc_seq ?_
    refine wc_region ?_
    refine s_move (ev_int rfl) (by decide) ?_
    refine s_move (ev_sl rfl) (by decide) ?_
    refine s_len_sl UIs.out rfl (by decide) ?_
    first | refine s_lss_t rfl rfl (by omega) (by decide) ?_ | refine s_lss_f rfl rfl (by omega) (by decide) ?_ | refine s_lss_v rfl rfl (by decide) ?_
    refine wl_end ?_
    refine wc_cond_t rfl ?_
    refine wc_seq ?_
    refine wc_region ?_
    refine s_move (ev_sl rfl) (by decide) ?_
    refine s_move (ev_int rfl) (by decide) ?_
    refine s_indexSl (k := i) UIs.out TIs.size rfl rfl (by omega) (by omega) (by decide) ?_
    refine s_load1 TIs.out rfl ((hr.ext hh.below).at1 (by assumption)) (by decide) ?_
    refine s_assign (ev_int rfl) (by decide) ?_
    refine wl_end ?_
    refine wc_ret ?_
    refine k_ret ?_
    -- at ('end', 'ret')
    refine ret1 (by first | exact .inr rfl | exact .inl rfl) rfl (v_int rfl) ?_
    exact ⟨rfl, hh.below⟩
  · rw [List.getElem?_eq_none (by omega)]
    refine calls_vc (N := 13) (l := [.slice A n c, .int .i64 (i : Int)]) Tryz.func186 rfl rfl (by simp) ?_
    refine wc_seq ?_
    refine wc_region ?_
    refine s_assign (ev_int rfl) (by decide) ?_
    refine wl_end ?_
    refine wc_seq ?_
    refine wc_seq ?_
    refine wc_region ?_
    refine s_move (ev_int rfl) (by decide) ?_
    refine s_move (ev_sl rfl) (by decide) ?_
    refine s_len_sl UIs.out rfl (by decide) ?_
    first | refine s_lss_t rfl rfl (by omega) (by decide) ?_ | refine s_lss_f rfl rfl (by omega) (by decide) ?_ | refine s_lss_v rfl rfl (by decide) ?_
    refine wl_end ?_
    refine wc_cond_f rfl ?_
    refine wc_skip ?_
    refine k_then ?_
    refine wc_seq ?_
    refine wc_region ?_
    refine s_assign (ev_int rfl) (by decide) ?_
    refine wl_end ?_
    refine wc_ret ?_
    -- at ('end', 'ret')
    refine ret1 (by first | exact .inr rfl | exact .inl rfl) rfl (v_int rfl) ?_
    exact ⟨rfl, hh.below⟩
theorem div_pow_succ (X i : Nat) : X / 2 ^ i = 2 * (X / 2 ^ (i + 1)) + X / 2 ^ i % 2 := by
  rw [Nat.pow_succ, ← Nat.div_div_eq_div_mul]; omega
theorem lt_of_div {X Y k : Nat} (h : X / 2 ^ k < Y / 2 ^ k) : X < Y := by
  refine Nat.lt_of_not_le fun h2 => ?_
  have := Nat.div_le_div_right (c := 2 ^ k) h2
  omega
theorem rcompare_calls (A B : Option Addr) (n c m c' : Nat) (xs ys : List Nat) (w : World) (hx : Sl w A n 1 (u8n xs)) (hy : Sl w B m 1 (u8n ys)) (hdx : Dg 2 xs) (hdy : Dg 2 ys) (hn : n ≤ 100000000000) (hm : m ≤ 100000000000) :
    Calls Tryz.prog 178 #[.slice A n c, .slice B m c'] w fun e w' => e = .returned (.int .i64 (cmpN (dig 2 xs) (dig 2 ys))) ∧ Below w.heap.size w w' := by
  have hlx := hx.1
  have hly := hy.1
  rw [length_u8n] at hlx hly
  have hh := Hp.start w
  have e1 : (if (m : Int) > (n : Int) then (m : Int) else (n : Int)) - 1 = ((max n m : Nat) : Int) - 1 := by split <;> omega
  refine calls_vc (N := 30) (l := [.slice A n c, .slice B m c']) Tryz.func178 rfl rfl (by simp) ?_
  refine wc_seq ?_
  refine wc_region ?_
  refine s_assign (ev_int rfl) (by decide) ?_
  refine wl_end ?_
  refine wc_seq ?_
  refine wc_seq ?_
  refine wc_region ?_
  refine s_move (ev_sl rfl) (by decide) ?_
  refine s_len_sl UIs.out rfl (by decide) ?_
  refine s_move (ev_sl rfl) (by decide) ?_
  refine s_len_sl UIs.out rfl (by decide) ?_
  refine s_max rfl rfl (by decide) ?_
  refine s_subi rfl rfl (by omega) (by omega) (by decide) ?_
  refine s_assign (ev_int rfl) (by decide) ?_
  refine wl_end ?_
  refine wc_block ?_
  -- at a loop
  rw [e1]
  refine wc_loop1 [4, 5, 12, 13, 14, 15, 16, 17, 18, 19, 20, 21, 22, 23, 24, 25, 26, 27, 28, 29] 5
    (fun v w' => ∃ k : Nat, k ≤ max n m ∧ v = .int .i64 ((k : Int) - 1) ∧ dig 2 xs / 2 ^ k = dig 2 ys / 2 ^ k ∧ Hp w [] w')
    (fun v _ => (intOf v + 1).toNat) ?_ ?_
  · exact ⟨max n m, Nat.le_refl _, rfl, by rw [dig_get0 hdx (by omega) (by omega), dig_get0 hdy (by omega) (by omega)], hh⟩
  · clear hh
    rintro ρ' v w' ⟨k, hk, rfl, heq, hh⟩
    by_cases h0 : k = 0
    · subst h0
      refine wc_seq ?_
      refine wc_seq ?_
      refine wc_region ?_
      refine s_move (ev_int rfl) (by decide) ?_
      first | refine s_geq_t rfl rfl (by omega) (by decide) ?_ | refine s_geq_f rfl rfl (by omega) (by decide) ?_ | refine s_geq_v rfl rfl (by decide) ?_
      refine wl_end ?_
      refine wc_cond_f rfl ?_
      refine wc_exit ?_
      refine k_exit ?_
      refine k_exit ?_
      refine b_here ?_
      refine k_then ?_
      refine wc_seq ?_
      refine wc_region ?_
      refine s_assign (ev_int rfl) (by decide) ?_
      refine wl_end ?_
      refine wc_ret ?_
      -- at ('end', 'ret')
      refine ret1 (by first | exact .inr rfl | exact .inl rfl) rfl (v_int rfl) ?_
      rw [Nat.pow_zero, Nat.div_one, Nat.div_one] at heq
      exact ⟨by rw [cmpN_eq heq], hh.below⟩
    · obtain ⟨j, rfl⟩ : ∃ j, k = j + 1 := ⟨k - 1, by omega⟩
      have hj : ((j + 1 : Nat) : Int) - 1 = (j : Int) := by omega
      have hXb := div_pow_succ (dig 2 xs) j
      have hYb := div_pow_succ (dig 2 ys) j
      by_cases hlt : dig 2 xs / 2 ^ j % 2 < dig 2 ys / 2 ^ j % 2
      · have hf : dig 2 xs < dig 2 ys := lt_of_div (k := j) (by omega)
        rw [hj]
        refine wc_seq ?_
        refine wc_seq ?_
        refine wc_region ?_
        refine s_move (ev_int rfl) (by decide) ?_
        first | refine s_geq_t rfl rfl (by omega) (by decide) ?_ | refine s_geq_f rfl rfl (by omega) (by decide) ?_ | refine s_geq_v rfl rfl (by decide) ?_
        refine wl_end ?_
        refine wc_cond_t rfl ?_
        refine wc_skip ?_
        refine k_then ?_
        refine wc_seq ?_
        refine wc_block ?_
        refine wc_seq ?_
        refine wc_seq ?_
        refine wc_region ?_
        refine s_move (ev_sl rfl) (by decide) ?_
        refine s_move (ev_int rfl) (by decide) ?_
        -- at some 18 := Op.call { callee := Callee.value (Operand.func 186), args := #[Operand.tmp 16, Operand.tmp
        refine s_callf (rbit_calls A n c j xs _ (hx.ext hh.below) hdx (by omega) (by omega)) FnIs.out rfl (by decide) ?_
        rintro e_ w18 ⟨rfl, hb_⟩
        refine ⟨_, rfl, ?_⟩
        replace hh := hh.ext hb_
        refine s_move (ev_sl rfl) (by decide) ?_
        refine s_move (ev_int rfl) (by decide) ?_
        -- at some 21 := Op.call { callee := Callee.value (Operand.func 186), args := #[Operand.tmp 19, Operand.tmp
        refine s_callf (rbit_calls B m c' j ys _ (hy.ext hh.below) hdy (by omega) (by omega)) FnIs.out rfl (by decide) ?_
        rintro e_ w21 ⟨rfl, hb_⟩
        refine ⟨_, rfl, ?_⟩
        replace hh := hh.ext hb_
        first | refine s_lss_t rfl rfl (by omega) (by decide) ?_ | refine s_lss_f rfl rfl (by omega) (by decide) ?_ | refine s_lss_v rfl rfl (by decide) ?_
        refine wl_end ?_
        refine wc_cond_t rfl ?_
        refine wc_seq ?_
        refine wc_region ?_
        refine s_assign (ev_int rfl) (by decide) ?_
        refine wl_end ?_
        refine wc_ret ?_
        refine k_ret ?_
        refine b_ret ?_
        refine k_ret ?_
        refine k_ret ?_
        refine b_ret ?_
        refine k_ret ?_
        -- at ('end', 'ret')
        refine ret1 (by first | exact .inr rfl | exact .inl rfl) rfl (v_int rfl) ?_
        exact ⟨by rw [cmpN_lt hf], hh.below⟩
      · by_cases hgt : dig 2 ys / 2 ^ j % 2 < dig 2 xs / 2 ^ j % 2
        · have hf : dig 2 ys < dig 2 xs := lt_of_div (k := j) (by omega)
          rw [hj]
          refine wc_seq ?_
          refine wc_seq ?_
          refine wc_region ?_
          refine s_move (ev_int rfl) (by decide) ?_
          first | refine s_geq_t rfl rfl (by omega) (by decide) ?_ | refine s_geq_f rfl rfl (by omega) (by decide) ?_ | refine s_geq_v rfl rfl (by decide) ?_
          refine wl_end ?_
          refine wc_cond_t rfl ?_
          refine wc_skip ?_
          refine k_then ?_
          refine wc_seq ?_
          refine wc_block ?_
          refine wc_seq ?_
          refine wc_seq ?_
          refine wc_region ?_
          refine s_move (ev_sl rfl) (by decide) ?_
          refine s_move (ev_int rfl) (by decide) ?_
          -- at some 18 := Op.call { callee := Callee.value (Operand.func 186), args := #[Operand.tmp 16, Operand.tmp
          refine s_callf (rbit_calls A n c j xs _ (hx.ext hh.below) hdx (by omega) (by omega)) FnIs.out rfl (by decide) ?_
          rintro e_ w18 ⟨rfl, hb_⟩
          refine ⟨_, rfl, ?_⟩
          replace hh := hh.ext hb_
          refine s_move (ev_sl rfl) (by decide) ?_
          refine s_move (ev_int rfl) (by decide) ?_
          -- at some 21 := Op.call { callee := Callee.value (Operand.func 186), args := #[Operand.tmp 19, Operand.tmp
          refine s_callf (rbit_calls B m c' j ys _ (hy.ext hh.below) hdy (by omega) (by omega)) FnIs.out rfl (by decide) ?_
          rintro e_ w21 ⟨rfl, hb_⟩
          refine ⟨_, rfl, ?_⟩
          replace hh := hh.ext hb_
          first | refine s_lss_t rfl rfl (by omega) (by decide) ?_ | refine s_lss_f rfl rfl (by omega) (by decide) ?_ | refine s_lss_v rfl rfl (by decide) ?_
          refine wl_end ?_
          refine wc_cond_f rfl ?_
          refine wc_skip ?_
          refine k_then ?_
          refine wc_seq ?_
          refine wc_region ?_
          refine s_move (ev_sl rfl) (by decide) ?_
          refine s_move (ev_int rfl) (by decide) ?_
          -- at some 25 := Op.call { callee := Callee.value (Operand.func 186), args := #[Operand.tmp 23, Operand.tmp
          refine s_callf (rbit_calls A n c j xs _ (hx.ext hh.below) hdx (by omega) (by omega)) FnIs.out rfl (by decide) ?_
          rintro e_ w25 ⟨rfl, hb_⟩
          refine ⟨_, rfl, ?_⟩
          replace hh := hh.ext hb_
          refine s_move (ev_sl rfl) (by decide) ?_
          refine s_move (ev_int rfl) (by decide) ?_
          -- at some 28 := Op.call { callee := Callee.value (Operand.func 186), args := #[Operand.tmp 26, Operand.tmp
          refine s_callf (rbit_calls B m c' j ys _ (hy.ext hh.below) hdy (by omega) (by omega)) FnIs.out rfl (by decide) ?_
          rintro e_ w28 ⟨rfl, hb_⟩
          refine ⟨_, rfl, ?_⟩
          replace hh := hh.ext hb_
          first | refine s_gtr_t rfl rfl (by omega) (by decide) ?_ | refine s_gtr_f rfl rfl (by omega) (by decide) ?_ | refine s_gtr_v rfl rfl (by decide) ?_
          refine wl_end ?_
          refine wc_cond_t rfl ?_
          refine wc_seq ?_
          refine wc_region ?_
          refine s_assign (ev_int rfl) (by decide) ?_
          refine wl_end ?_
          refine wc_ret ?_
          refine b_ret ?_
          refine k_ret ?_
          refine k_ret ?_
          refine b_ret ?_
          refine k_ret ?_
          -- at ('end', 'ret')
          refine ret1 (by first | exact .inr rfl | exact .inl rfl) rfl (v_int rfl) ?_
          exact ⟨by rw [cmpN_gt hf], hh.below⟩
        · rw [hj]
          refine wc_seq ?_
          refine wc_seq ?_
          refine wc_region ?_
          refine s_move (ev_int rfl) (by decide) ?_
          first | refine s_geq_t rfl rfl (by omega) (by decide) ?_ | refine s_geq_f rfl rfl (by omega) (by decide) ?_ | refine s_geq_v rfl rfl (by decide) ?_
          refine wl_end ?_
          refine wc_cond_t rfl ?_
          refine wc_skip ?_
          refine k_then ?_
          refine wc_seq ?_
          refine wc_block ?_
          refine wc_seq ?_
          refine wc_seq ?_
          refine wc_region ?_
          refine s_move (ev_sl rfl) (by decide) ?_
          refine s_move (ev_int rfl) (by decide) ?_
          -- at some 18 := Op.call { callee := Callee.value (Operand.func 186), args := #[Operand.tmp 16, Operand.tmp
          refine s_callf (rbit_calls A n c j xs _ (hx.ext hh.below) hdx (by omega) (by omega)) FnIs.out rfl (by decide) ?_
          rintro e_ w18 ⟨rfl, hb_⟩
          refine ⟨_, rfl, ?_⟩
          replace hh := hh.ext hb_
          refine s_move (ev_sl rfl) (by decide) ?_
          refine s_move (ev_int rfl) (by decide) ?_
          -- at some 21 := Op.call { callee := Callee.value (Operand.func 186), args := #[Operand.tmp 19, Operand.tmp
          refine s_callf (rbit_calls B m c' j ys _ (hy.ext hh.below) hdy (by omega) (by omega)) FnIs.out rfl (by decide) ?_
          rintro e_ w21 ⟨rfl, hb_⟩
          refine ⟨_, rfl, ?_⟩
          replace hh := hh.ext hb_
          first | refine s_lss_t rfl rfl (by omega) (by decide) ?_ | refine s_lss_f rfl rfl (by omega) (by decide) ?_ | refine s_lss_v rfl rfl (by decide) ?_
          refine wl_end ?_
          refine wc_cond_f rfl ?_
          refine wc_skip ?_
          refine k_then ?_
          refine wc_seq ?_
          refine wc_region ?_
          refine s_move (ev_sl rfl) (by decide) ?_
          refine s_move (ev_int rfl) (by decide) ?_
          -- at some 25 := Op.call { callee := Callee.value (Operand.func 186), args := #[Operand.tmp 23, Operand.tmp
          refine s_callf (rbit_calls A n c j xs _ (hx.ext hh.below) hdx (by omega) (by omega)) FnIs.out rfl (by decide) ?_
          rintro e_ w25 ⟨rfl, hb_⟩
          refine ⟨_, rfl, ?_⟩
          replace hh := hh.ext hb_
          refine s_move (ev_sl rfl) (by decide) ?_
          refine s_move (ev_int rfl) (by decide) ?_
          -- at some 28 := Op.call { callee := Callee.value (Operand.func 186), args := #[Operand.tmp 26, Operand.tmp
          refine s_callf (rbit_calls B m c' j ys _ (hy.ext hh.below) hdy (by omega) (by omega)) FnIs.out rfl (by decide) ?_
          rintro e_ w28 ⟨rfl, hb_⟩
          refine ⟨_, rfl, ?_⟩
          replace hh := hh.ext hb_
          first | refine s_gtr_t rfl rfl (by omega) (by decide) ?_ | refine s_gtr_f rfl rfl (by omega) (by decide) ?_ | refine s_gtr_v rfl rfl (by decide) ?_
          refine wl_end ?_
          refine wc_cond_f rfl ?_
          refine wc_skip ?_
          refine b_norm ?_
          refine k_then ?_
          refine wc_region ?_
          refine s_move (ev_int rfl) (by decide) ?_
          refine s_subi rfl rfl (by omega) (by omega) (by decide) ?_
          refine s_assign (ev_int rfl) (by decide) ?_
          refine wl_nil ?_
          refine k_then ?_
          -- at ('round',)
          refine ⟨⟨j, by omega, rfl, by omega, hh⟩, by show ((j : Int) - 1 + 1).toNat < ((j : Int) + 1).toNat; omega, ?_⟩
          (repeat (first | exact agree_mask _ _ _ | refine agree_upd rfl ?_ | refine agree_mask2 rfl ?_))
theorem add_bit (S T i : Nat) : (S + T) / 2 ^ i % 2 = (S / 2 ^ i % 2 + (S % 2 ^ i + T % 2 ^ i) / 2 ^ i + T / 2 ^ i % 2) % 2 ∧ (S % 2 ^ (i + 1) + T % 2 ^ (i + 1)) / 2 ^ (i + 1) = (S / 2 ^ i % 2 + (S % 2 ^ i + T % 2 ^ i) / 2 ^ i + T / 2 ^ i % 2) / 2 ∧ (S % 2 ^ i + T % 2 ^ i) / 2 ^ i ≤ 1 := by
  have hS := Nat.div_add_mod S (2 ^ i)
  have hT := Nat.div_add_mod T (2 ^ i)
  have hp : 0 < 2 ^ i := Nat.pow_pos (by omega)
  have hS2 : S % 2 ^ (i + 1) = S % 2 ^ i + 2 ^ i * (S / 2 ^ i % 2) := by rw [Nat.pow_succ, Nat.mod_mul]
  have hT2 : T % 2 ^ (i + 1) = T % 2 ^ i + 2 ^ i * (T / 2 ^ i % 2) := by rw [Nat.pow_succ, Nat.mod_mul]
  have hSl := Nat.mod_lt S hp
  have hTl := Nat.mod_lt T hp
  have hc := Nat.div_add_mod (S % 2 ^ i + T % 2 ^ i) (2 ^ i)
  have hcl := Nat.mod_lt (S % 2 ^ i + T % 2 ^ i) hp
  have hc1 : (S % 2 ^ i + T % 2 ^ i) / 2 ^ i ≤ 1 := by
    have : (S % 2 ^ i + T % 2 ^ i) / 2 ^ i < 2 := by rw [Nat.div_lt_iff_lt_mul hp]; omega
    omega
  have e1 : (S + T) / 2 ^ i = S / 2 ^ i + T / 2 ^ i + (S % 2 ^ i + T % 2 ^ i) / 2 ^ i := by
    have : S + T = (S % 2 ^ i + T % 2 ^ i) % 2 ^ i + 2 ^ i * (S / 2 ^ i + T / 2 ^ i + (S % 2 ^ i + T % 2 ^ i) / 2 ^ i) := by
      rw [Nat.mul_add, Nat.mul_add]; omega
    conv => lhs; rw [this]
    rw [Nat.add_mul_div_left _ _ hp, Nat.div_eq_of_lt hcl, Nat.zero_add]
  refine ⟨by rw [e1]; omega, ?_, hc1⟩
  rw [hS2, hT2]
  have e2 : S % 2 ^ i + 2 ^ i * (S / 2 ^ i % 2) + (T % 2 ^ i + 2 ^ i * (T / 2 ^ i % 2)) = (S % 2 ^ i + T % 2 ^ i) % 2 ^ i + 2 ^ i * (S / 2 ^ i % 2 + (S % 2 ^ i + T % 2 ^ i) / 2 ^ i + T / 2 ^ i % 2) := by
    rw [Nat.mul_add, Nat.mul_add]; omega
  rw [e2, Nat.pow_succ, ← Nat.div_div_eq_div_mul, Nat.add_mul_div_left _ _ hp, Nat.div_eq_of_lt hcl, Nat.zero_add]
theorem bit_up (Y up i : Nat) : Y * 2 ^ up / 2 ^ i % 2 = if up ≤ i then Y / 2 ^ (i - up) % 2 else 0 := by
  split
  · rename_i h
    have e : 2 ^ i = 2 ^ up * 2 ^ (i - up) := by rw [← Nat.pow_add]; congr 1; omega
    rw [e, ← Nat.div_div_eq_div_mul, Nat.mul_div_cancel _ (Nat.pow_pos (by omega))]
  · rename_i h
    have e : 2 ^ up = 2 ^ i * 2 * 2 ^ (up - i - 1) := by rw [← Nat.pow_succ, ← Nat.pow_add]; congr 1; omega
    have e2 : Y * 2 ^ up = 2 ^ i * (2 * (Y * 2 ^ (up - i - 1))) := by rw [e]; simp only [Nat.mul_assoc, Nat.mul_left_comm]
    rw [e2, Nat.mul_div_cancel_left _ (Nat.pow_pos (by omega))]
    omega
theorem fillK {K i N : Nat} (h : i < K) : (digK 2 i N ++ List.replicate (K - i) 0).set i (N / 2 ^ i % 2) = digK 2 (i + 1) N ++ List.replicate (K - (i + 1)) 0 := by
  rw [show K - i = (K - (i + 1)) + 1 by omega, List.replicate_succ, List.set_append_right _ _ (by rw [length_digK]; omega), length_digK, Nat.sub_self, List.set_cons_zero, digK_snoc]
  simp
theorem rplus_calls (A B : Option Addr) (n c m c' up : Nat) (xs ys : List Nat) (w : World) (hx : Sl w A n 1 (u8n xs)) (hy : Sl w B m 1 (u8n ys)) (hdx : Dg 2 xs) (hdy : Dg 2 ys) (hn : n ≤ 100000000000) (hm : m ≤ 100000000000) (hup : up ≤ 100000000000) :
    Calls Tryz.prog 174 #[.slice A n c, .slice B m c', .int .i64 (up : Int)] w fun e w' => ∃ b, e = .returned (.slice (some ⟨b, 0, none⟩) (max n (m + up) + 1) (max n (m + up) + 1)) ∧ w'.ownsRow w.heap.size 5 1 (.slice (some ⟨b, 0, none⟩) (max n (m + up) + 1) (max n (m + up) + 1)) (max n (m + up) + 1) (u8n (digK 2 (max n (m + up) + 1) (dig 2 xs + dig 2 ys * 2 ^ up))) ∧ Below w.heap.size w w' := by
  have hlx := hx.1
  have hly := hy.1
  rw [length_u8n] at hlx hly
  have hh := Hp.start w
  have e1 : (if ((m : Int) + (up : Int)) > (n : Int) then ((m : Int) + (up : Int)) else (n : Int)) + 1 = ((max n (m + up) + 1 : Nat) : Int) := by split <;> omega
  have hand : ∀ z : Nat, z &&& 1 = z % 2 := fun z => Nat.and_one_is_mod z
  refine calls_vc (N := 49) (l := [.slice A n c, .slice B m c', .int .i64 (up : Int)]) Tryz.func174 rfl rfl (by simp) ?_
  refine wc_seq ?_
  refine wc_region ?_
  refine s_assign (ev_sl rfl) (by decide) ?_
  refine wl_end ?_
  refine wc_seq ?_
  refine wc_region ?_
  refine s_move (ev_sl rfl) (by decide) ?_
  refine s_len_sl UIs.out rfl (by decide) ?_
  refine s_move (ev_sl rfl) (by decide) ?_
  refine s_len_sl UIs.out rfl (by decide) ?_
  refine s_move (ev_int rfl) (by decide) ?_
  refine s_addi rfl rfl (by omega) (by omega) (by decide) ?_
  refine s_max rfl rfl (by decide) ?_
  refine s_addi rfl rfl (by omega) (by omega) (by decide) ?_
  -- at some 19
  rw [e1]
  generalize hK : max n (m + up) + 1 = K at *
  refine wl_make (n := K) hh rfl rfl (by omega) (by omega) UIs.out TIs.out rfl (by omega) (by omega) (by decide) ?_
  intro b19 w19 hh
  refine s_assign (ev_sl rfl) (by decide) ?_
  refine wl_end ?_
  refine wc_seq ?_
  refine wc_region ?_
  refine s_assign (ev_int rfl) (by decide) ?_
  refine wl_end ?_
  refine wc_seq ?_
  refine wc_seq ?_
  refine wc_region ?_
  refine s_assign (ev_int rfl) (by decide) ?_
  refine wl_end ?_
  refine wc_block ?_
  -- at a loop
  rw [zrep_u8] at hh
  refine wc_loop2 [8, 9, 10, 20, 21, 22, 23, 24, 25, 26, 27, 28, 29, 30, 31, 32, 33, 34, 35, 36, 37, 38, 39, 40, 41, 42, 43, 44, 45, 46, 47] 8 9
    (fun cr v w' => ∃ i : Nat, i ≤ K ∧ v = .int .i64 (i : Int) ∧ cr = .int .u8 (((dig 2 xs % 2 ^ i + dig 2 ys * 2 ^ up % 2 ^ i) / 2 ^ i : Nat) : Int) ∧ Hp w [.row (some ⟨b19, 0, none⟩) K K 5 1 (u8n (digK 2 i (dig 2 xs + dig 2 ys * 2 ^ up) ++ List.replicate (K - i) 0))] w')
    (fun _ v _ => K - (intOf v).toNat) ?_ ?_
  · exact ⟨0, Nat.zero_le _, rfl, by simp [Nat.mod_one]; rfl, hh⟩
  · clear hh
    rintro ρ' cr v w' ⟨i, hi, rfl, rfl, hh⟩
    -- 
    -- 
    by_cases hlt : i < K
    · obtain ⟨b1, b2, b3⟩ := add_bit (dig 2 xs) (dig 2 ys * 2 ^ up) i
      have hbu := bit_up (dig 2 ys) up i
      have hxb : dig 2 xs / 2 ^ i % 2 < 2 := Nat.mod_lt _ (by omega)
      have hyb : dig 2 ys / 2 ^ (i - up) % 2 < 2 := Nat.mod_lt _ (by omega)
      have hll : (u8n (digK 2 i (dig 2 xs + dig 2 ys * 2 ^ up) ++ List.replicate (K - i) 0)).length = K := by rw [length_u8n, List.length_append, length_digK, List.length_replicate]; omega
      have hfk := fillK (N := dig 2 xs + dig 2 ys * 2 ^ up) hlt
      generalize hC : (dig 2 xs % 2 ^ i + dig 2 ys * 2 ^ up % 2 ^ i) / 2 ^ i = C at *
      generalize hX : dig 2 xs / 2 ^ i % 2 = X at *
      refine wc_seq ?_
      refine wc_seq ?_
      refine wc_region ?_
      refine s_move (ev_int rfl) (by decide) ?_
      refine s_move (ev_sl rfl) (by decide) ?_
      refine s_len_sl UIs.out rfl (by decide) ?_
      first | refine s_lss_t rfl rfl (by omega) (by decide) ?_ | refine s_lss_f rfl rfl (by omega) (by decide) ?_ | refine s_lss_v rfl rfl (by decide) ?_
      refine wl_end ?_
      refine wc_cond_t rfl ?_
      refine wc_skip ?_
      refine k_then ?_
      refine wc_seq ?_
      refine wc_block ?_
      refine wc_seq ?_
      refine wc_region ?_
      refine s_move (ev_sl rfl) (by decide) ?_
      refine s_move (ev_int rfl) (by decide) ?_
      -- at some 28 := Op.call { callee := Callee.value (Operand.func 186), args := #[Operand.tmp 26, Operand.tmp
      refine s_callf (rbit_calls A n c i xs _ (hx.ext hh.below) hdx (by omega) (by omega)) FnIs.out rfl (by decide) ?_
      rintro e_ w28 ⟨rfl, hb_⟩
      refine ⟨_, rfl, ?_⟩
      replace hh := hh.ext hb_
      rw [hX]
      by_cases hiu : up ≤ i
      · rw [if_pos hiu] at hbu
        rw [hbu] at b1 b2
        generalize hY : dig 2 ys / 2 ^ (i - up) % 2 = Y at *
        have es : ((X + C) % 256 + Y) % 256 = X + C + Y := by omega
        have ei : (i : Int) - (up : Int) = ((i - up : Nat) : Int) := by omega
        refine s_move (ev_int rfl) (by decide) ?_
        refine s_addu rfl rfl (by decide) ?_
        refine s_assign (ev_int rfl) (by decide) ?_
        refine wl_end ?_
        refine wc_seq ?_
        refine wc_seq ?_
        refine wc_region ?_
        refine s_move (ev_int rfl) (by decide) ?_
        refine s_move (ev_int rfl) (by decide) ?_
        first | refine s_geq_t rfl rfl (by omega) (by decide) ?_ | refine s_geq_f rfl rfl (by omega) (by decide) ?_ | refine s_geq_v rfl rfl (by decide) ?_
        refine wl_end ?_
        refine wc_cond_t rfl ?_
        refine wc_region ?_
        refine s_move (ev_int rfl) (by decide) ?_
        refine s_move (ev_sl rfl) (by decide) ?_
        refine s_move (ev_int rfl) (by decide) ?_
        refine s_move (ev_int rfl) (by decide) ?_
        refine s_subi rfl rfl (by omega) (by omega) (by decide) ?_
        -- at some 39 := Op.call { callee := Callee.value (Operand.func 186), args := #[Operand.tmp 35, Operand.tmp
        rw [ei]
        refine s_callf (rbit_calls B m c' (i - up) ys _ (hy.ext hh.below) hdy (by omega) (by omega)) FnIs.out rfl (by decide) ?_
        rintro e_ w39 ⟨rfl, hb_⟩
        refine ⟨_, rfl, ?_⟩
        replace hh := hh.ext hb_
        rw [hY]
        refine s_addu rfl rfl (by decide) ?_
        refine s_assign (ev_int rfl) (by decide) ?_
        refine wl_end ?_
        refine wc_seq ?_
        refine wc_region ?_
        refine s_move (ev_sl rfl) (by decide) ?_
        refine s_move (ev_int rfl) (by decide) ?_
        refine s_move (ev_int rfl) (by decide) ?_
        refine s_andu (b := 1) rfl rfl (by first | assumption | omega) (by first | assumption | omega) (by decide) ?_
        refine s_indexRow (k := i) UIs.out TIs.size rfl rfl (by omega) (by omega) (by decide) ?_
        -- at none := Op.store 5 (Operand.tmp 45) (Operand.tmp 44)
        refine wl_store_row hh (i := 0) (vs := [_]) rfl rfl (ev_int rfl) rfl TIs.out rfl (by rw [hll]; omega) rfl ?_
        intro ws hh
        simp only [List.set_cons_zero] at hh
        rw [hand, es, Nat.mul_one, splice_one (by rw [hll]; omega), u8n_set, ← b1, hfk] at hh
        refine wl_end ?_
        refine wc_region ?_
        refine s_move (ev_int rfl) (by decide) ?_
        refine s_shruc (s := 1) (m := 2) rfl rfl (by decide) (by decide) (by decide) ?_
        refine s_assign (ev_int rfl) (by decide) ?_
        refine wl_nil ?_
        refine b_norm ?_
        refine k_then ?_
        refine wc_region ?_
        refine s_move (ev_int rfl) (by decide) ?_
        refine s_addi rfl rfl (by omega) (by omega) (by decide) ?_
        refine s_assign (ev_int rfl) (by decide) ?_
        refine wl_nil ?_
        refine k_then ?_
        -- at ('round',)
        rw [es]
        refine ⟨⟨i + 1, by omega, rfl, by rw [b2]; rfl, hh⟩, by show K - (i + 1) < K - i; omega, ?_⟩
        (repeat (first | exact agree_mask _ _ _ | refine agree_upd rfl ?_ | refine agree_mask2 rfl ?_))
      · rw [if_neg hiu] at hbu
        rw [hbu] at b1 b2
        have es : (X + C) % 256 = X + C + 0 := by omega
        refine s_move (ev_int rfl) (by decide) ?_
        refine s_addu rfl rfl (by decide) ?_
        refine s_assign (ev_int rfl) (by decide) ?_
        refine wl_end ?_
        refine wc_seq ?_
        refine wc_seq ?_
        refine wc_region ?_
        refine s_move (ev_int rfl) (by decide) ?_
        refine s_move (ev_int rfl) (by decide) ?_
        first | refine s_geq_t rfl rfl (by omega) (by decide) ?_ | refine s_geq_f rfl rfl (by omega) (by decide) ?_ | refine s_geq_v rfl rfl (by decide) ?_
        refine wl_end ?_
        refine wc_cond_f rfl ?_
        refine wc_skip ?_
        refine k_then ?_
        refine wc_seq ?_
        refine wc_region ?_
        refine s_move (ev_sl rfl) (by decide) ?_
        refine s_move (ev_int rfl) (by decide) ?_
        refine s_move (ev_int rfl) (by decide) ?_
        refine s_andu (b := 1) rfl rfl (by first | assumption | omega) (by first | assumption | omega) (by decide) ?_
        -- at some 45
        refine s_indexRow (k := i) UIs.out TIs.size rfl rfl (by omega) (by omega) (by decide) ?_
        -- at none := Op.store 5 (Operand.tmp 45) (Operand.tmp 44)
        refine wl_store_row hh (i := 0) (vs := [_]) rfl rfl (ev_int rfl) rfl TIs.out rfl (by rw [hll]; omega) rfl ?_
        intro ws hh
        simp only [List.set_cons_zero] at hh
        rw [hand, es, Nat.mul_one, splice_one (by rw [hll]; omega), u8n_set, ← b1, hfk] at hh
        refine wl_end ?_
        refine wc_region ?_
        refine s_move (ev_int rfl) (by decide) ?_
        refine s_shruc (s := 1) (m := 2) rfl rfl (by decide) (by decide) (by decide) ?_
        refine s_assign (ev_int rfl) (by decide) ?_
        refine wl_nil ?_
        refine b_norm ?_
        refine k_then ?_
        refine wc_region ?_
        refine s_move (ev_int rfl) (by decide) ?_
        refine s_addi rfl rfl (by omega) (by omega) (by decide) ?_
        refine s_assign (ev_int rfl) (by decide) ?_
        refine wl_nil ?_
        refine k_then ?_
        -- at ('round',)
        rw [es]
        refine ⟨⟨i + 1, by omega, rfl, by rw [b2]; rfl, hh⟩, by show K - (i + 1) < K - i; omega, ?_⟩
        (repeat (first | exact agree_mask _ _ _ | refine agree_upd rfl ?_ | refine agree_mask2 rfl ?_))
    · obtain rfl : i = K := by omega
      rw [Nat.sub_self, List.replicate_zero, List.append_nil] at hh
      refine wc_seq ?_
      refine wc_seq ?_
      refine wc_region ?_
      refine s_move (ev_int rfl) (by decide) ?_
      refine s_move (ev_sl rfl) (by decide) ?_
      refine s_len_sl UIs.out rfl (by decide) ?_
      first | refine s_lss_t rfl rfl (by omega) (by decide) ?_ | refine s_lss_f rfl rfl (by omega) (by decide) ?_ | refine s_lss_v rfl rfl (by decide) ?_
      refine wl_end ?_
      refine wc_cond_f rfl ?_
      refine wc_exit ?_
      refine k_exit ?_
      refine k_exit ?_
      refine b_here ?_
      refine k_then ?_
      refine wc_seq ?_
      refine wc_region ?_
      refine s_move (ev_sl rfl) (by decide) ?_
      refine s_assign (ev_sl rfl) (by decide) ?_
      refine wl_end ?_
      refine wc_ret ?_
      -- at ('end', 'ret')
      refine ret1 (by first | exact .inr rfl | exact .inl rfl) rfl (v_sl rfl) ?_
      exact ⟨_, rfl, hh.at_ (i := 0) rfl, hh.below⟩
end Go.Proofs.YthmmofllajkejaaGreatDoor
