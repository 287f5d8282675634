/- The walks through the document's answer for natural numbers (ogeeref01): sums, products, quotients. -/
import Derived.Test.YthmmofllajkejaaGreatDoorRefC
namespace Go.Proofs.YthmmofllajkejaaGreatDoor
open Go.RowKit
-- umode
theorem rAdd_calls (L : Option Addr) (n c : Nat) (ss : List ByteArray) (w : World) (hS : Sl w L n 1 (strs ss)) (hn : n ≤ 1000000) (hs : ∀ s ∈ ss, s.size ≤ 1000000000) :
    Calls Tryz.prog 154 #[.slice L n c] w fun e w' => e = .returned (.string (sN (ss.map bN).sum)) ∧ Below w.heap.size w w' := by
  have hsl : ss.length = n := by have := hS.1; rw [length_strs] at this; omega
  have hh := Hp.start w
  refine calls_vc (N := 20) (l := [.slice L n c]) Tryz.func154 rfl rfl (by simp) ?_
  refine wc_seq ?_
  refine wc_region ?_
  refine s_assign (ev_str rfl) (by decide) ?_
  refine wl_end ?_
  refine wc_seq ?_
  refine wc_region ?_
  refine s_assign (ev_sl rfl) (by decide) ?_
  refine wl_end ?_
  refine wc_seq ?_
  refine wc_seq ?_
  refine wc_region ?_
  refine s_assign (ev_int rfl) (by decide) ?_
  refine wl_end ?_
  refine wc_block ?_
  -- at a loop
  replace hh := hh.nil_row 5 1
  refine wc_loop2 [3, 4, 5, 6, 7, 8, 9, 10, 11, 12, 13, 14, 15, 16, 17] 3 4
    (fun v j w' => ∃ (i : Nat) (A : Option Addr) (c' T K : Nat), i ≤ n ∧ j = .int .i64 i ∧ T = ((ss.take i).map bN).sum ∧ v = .slice A K c' ∧ K ≤ 8000000000 + i ∧ T < 2 ^ K ∧ Hp w [.row A K c' 5 1 (u8n (digK 2 K T))] w')
    (fun _ j _ => n - (intOf j).toNat) ?_ ?_
  · exact ⟨0, none, 0, 0, 0, Nat.zero_le _, rfl, rfl, rfl, by omega, by simp, hh⟩
  · clear hh
    rintro ρ' v j w' ⟨i, A, c', T, K, hi, rfl, hT, rfl, hTl, hTb, hh⟩
    -- 
    -- 
    by_cases hlt : i < n
    · obtain ⟨s, hsi⟩ := get_of_lt (l := ss) (k := i) (by omega)
      obtain ⟨ad, rfl, hr⟩ := hS.at_ (by omega)
      have hs2 := strs_at hsi
      have hsz := hs s (List.mem_of_getElem? hsi)
      have hlx := bits_len s
      have hT2 : ((ss.take (i + 1)).map bN).sum = T + bN s := by rw [take_snoc hsi, List.map_append, List.map_singleton, sum_snocN, hT]
      have hbs : bN s < 2 ^ (digs 2 (bN s)).length := lt_blen _
      have hb2 : T + bN s < 2 ^ (max K ((digs 2 (bN s)).length + 0) + 1) := by
        have h1 : 2 ^ K ≤ 2 ^ max K ((digs 2 (bN s)).length + 0) := Nat.pow_le_pow_right (by omega) (by omega)
        have h2 : 2 ^ (digs 2 (bN s)).length ≤ 2 ^ max K ((digs 2 (bN s)).length + 0) := Nat.pow_le_pow_right (by omega) (by omega)
        rw [Nat.pow_succ]; omega
      -- 
      refine wc_seq ?_
      refine wc_seq ?_
      refine wc_region ?_
      refine s_move (ev_int rfl) (by decide) ?_
      refine s_move (ev_sl rfl) (by decide) ?_
      refine s_len_sl UIs.out rfl (by decide) ?_
      first | refine s_lss_t rfl rfl (by omega) (by decide) ?_ | refine s_lss_f rfl rfl (by omega) (by decide) ?_ | refine s_lss_v rfl rfl (by decide) ?_
      refine wl_end ?_
      refine wc_cond_t rfl ?_
      refine wc_skip ?_
      refine k_then ?_
      refine wc_seq ?_
      refine wc_block ?_
      refine wc_region ?_
      refine s_move (ev_sl rfl) (by decide) ?_
      refine s_move (ev_sl rfl) (by decide) ?_
      refine s_move (ev_int rfl) (by decide) ?_
      refine s_indexSl (k := i) UIs.out TIs.size rfl rfl (by omega) (by omega) (by decide) ?_
      refine s_load1 TIs.out rfl ((hr.ext hh.below).at1 (by assumption)) (by decide) ?_
      -- at some 16 := Op.call { callee := Callee.value (Operand.func 157), args := #[Operand.tmp 15], argTypes :
      refine s_callf (rbits_calls s _ hsz) FnIs.out rfl (by decide) ?_
      rintro e_ w16 ⟨A16, c16, rfl, hown_, hb_⟩
      refine ⟨_, rfl, ?_⟩
      replace hh := hh.push_new (x := .row _ _ _ _ _ _) hb_ hown_
      -- at some 17 := Op.call { callee := Callee.value (Operand.func 174), args := #[Operand.tmp 11, Operand.tmp
      refine s_callf (rplus_calls _ _ _ _ _ _ 0 (digK 2 K T) (digs 2 (bN s)) _ (hh.sl_row (i := 1) rfl) (hh.sl_row (i := 0) rfl) (dg_digK (by omega) _ _) (can_2 _) (by omega) (by omega) (by omega)) FnIs.out rfl (by decide) ?_
      rintro e_ w_ ⟨b17, rfl, hown_, hb_⟩
      refine ⟨_, rfl, ?_⟩
      rw [dig_2, dig_digK_lt hTb, Nat.pow_zero, Nat.mul_one] at hown_
      replace hh := (hh.push_new (x := .row _ _ _ _ _ _) hb_ hown_).sub (List.sublist_append_left [_] _)
      refine s_assign (ev_sl rfl) (by decide) ?_
      refine wl_nil ?_
      refine b_norm ?_
      refine k_then ?_
      refine wc_region ?_
      refine s_move (ev_int rfl) (by decide) ?_
      refine s_addi rfl rfl (by omega) (by omega) (by decide) ?_
      refine s_assign (ev_int rfl) (by decide) ?_
      refine wl_nil ?_
      refine k_then ?_
      -- at ('round',)
      refine ⟨⟨i + 1, _, _, T + bN s, _, by omega, rfl, hT2.symm, rfl, by omega, hb2, hh⟩, by show n - (i + 1) < n - i; omega, ?_⟩
      (repeat (first | exact agree_mask _ _ _ | refine agree_upd rfl ?_ | refine agree_mask2 rfl ?_))
    · refine wc_seq ?_
      refine wc_seq ?_
      refine wc_region ?_
      refine s_move (ev_int rfl) (by decide) ?_
      refine s_move (ev_sl rfl) (by decide) ?_
      refine s_len_sl UIs.out rfl (by decide) ?_
      first | refine s_lss_t rfl rfl (by omega) (by decide) ?_ | refine s_lss_f rfl rfl (by omega) (by decide) ?_ | refine s_lss_v rfl rfl (by decide) ?_
      refine wl_end ?_
      refine wc_cond_f rfl ?_
      refine wc_exit ?_
      refine k_exit ?_
      refine k_exit ?_
      refine b_here ?_
      refine k_then ?_
      refine wc_seq ?_
      refine wc_region ?_
      refine s_move (ev_sl rfl) (by decide) ?_
      -- at some 19 := Op.call { callee := Callee.value (Operand.func 143), args := #[Operand.tmp 18], argTypes :
      refine s_callf (rtext_calls _ _ _ (digK 2 K T) _ (hh.sl_row (i := 0) rfl) (dg_digK (by omega) _ _) (hh.row_cap (i := 0) rfl) (by omega)) FnIs.out rfl (by decide) ?_
      rintro e_ w19 ⟨rfl, hb_⟩
      refine ⟨_, rfl, ?_⟩
      replace hh := hh.ext hb_
      rw [dig_digK_lt hTb]
      refine s_assign (ev_str rfl) (by decide) ?_
      refine wl_end ?_
      refine wc_ret ?_
      -- at ('end', 'ret')
      refine ret1 (by first | exact .inr rfl | exact .inl rfl) rfl (v_str rfl) ?_
      rw [List.take_of_length_le (by omega)] at hT
      rw [hT]
      exact ⟨rfl, hh.below⟩
theorem rMul_calls (a b : ByteArray) (w : World) (ha : a.size ≤ 1000000000) (hb : b.size ≤ 1000000000) :
    Calls Tryz.prog 153 #[.string a, .string b] w fun e w' => e = .returned (.string (sN (bN a * bN b))) ∧ Below w.heap.size w w' := by
  have hh := Hp.start w
  have h1 := bits_len a
  have h2 := bits_len b
  have hYl : bN b < 2 ^ (digs 2 (bN b)).length := lt_blen _
  have hXd := can_2 (bN a)
  have hX := dig_2 (bN a)
  refine calls_vc (N := 30) (l := [.string a, .string b]) Tryz.func153 rfl rfl (by simp) ?_
  refine wc_seq ?_
  refine wc_region ?_
  refine s_assign (ev_str rfl) (by decide) ?_
  refine wl_end ?_
  refine wc_seq ?_
  refine wc_region ?_
  refine s_move (ev_str rfl) (by decide) ?_
  -- at some 10 := Op.call { callee := Callee.value (Operand.func 157), args := #[Operand.tmp 9], argTypes :=
  refine s_callf (rbits_calls a _ ha) FnIs.out rfl (by decide) ?_
  rintro e_ w10 ⟨A10, c10, rfl, hown_, hb_⟩
  refine ⟨_, rfl, ?_⟩
  replace hh := hh.push_new (x := .row _ _ _ _ _ _) hb_ hown_
  refine s_move (ev_str rfl) (by decide) ?_
  -- at some 12 := Op.call { callee := Callee.value (Operand.func 157), args := #[Operand.tmp 11], argTypes :
  refine s_callf (rbits_calls b _ hb) FnIs.out rfl (by decide) ?_
  rintro e_ w12 ⟨A12, c12, rfl, hown_, hb_⟩
  refine ⟨_, rfl, ?_⟩
  replace hh := hh.push_new (x := .row _ _ _ _ _ _) hb_ hown_
  generalize digs 2 (bN a) = xs at *
  refine s_assign (ev_sl rfl) (by decide) ?_
  refine s_assign (ev_sl rfl) (by decide) ?_
  refine wl_end ?_
  refine wc_seq ?_
  refine wc_region ?_
  refine s_assign (ev_sl rfl) (by decide) ?_
  refine wl_end ?_
  refine wc_seq ?_
  refine wc_seq ?_
  refine wc_region ?_
  refine s_assign (ev_int rfl) (by decide) ?_
  refine wl_end ?_
  refine wc_block ?_
  -- at a loop
  replace hh := hh.nil_row 5 1
  refine wc_loop2 [7, 8, 13, 14, 15, 16, 17, 18, 19, 20, 21, 22, 23, 24, 25, 26, 27] 7 8
    (fun v j w' => ∃ (i : Nat) (A : Option Addr) (c' P K : Nat), i ≤ xs.length ∧ j = .int .i64 i ∧ P = dig 2 (xs.take i) * bN b ∧ v = .slice A K c' ∧ K ≤ (digs 2 (bN b)).length + i ∧ P < 2 ^ K ∧ Hp w [.row A K c' 5 1 (u8n (digK 2 K P)), .row A12 (digs 2 (bN b)).length c12 5 1 (u8n (digs 2 (bN b))), .row A10 xs.length c10 5 1 (u8n xs)] w')
    (fun _ j _ => xs.length - (intOf j).toNat) ?_ ?_
  · exact ⟨0, none, 0, 0, 0, Nat.zero_le _, rfl, by simp [dig], rfl, by omega, by simp, hh⟩
  · clear hh
    rintro ρ' v j w' ⟨i, A, c', P, K, hi, rfl, hP, rfl, hK, hPb, hh⟩
    -- 
    -- 
    by_cases hlt : i < xs.length
    · obtain ⟨d, hd⟩ := get_of_lt (l := xs) (k := i) (by omega)
      have hd2 := u8n_at hd
      have hdw := hXd.at_ hd
      have hsn := dig_take_snoc (B := 2) hd
      obtain ⟨g, rfl⟩ := hh.row_some (i := 2) rfl (by omega)
      by_cases h0 : d = 0
      · subst h0
        refine wc_seq ?_
        refine wc_seq ?_
        refine wc_region ?_
        refine s_move (ev_int rfl) (by decide) ?_
        refine s_move (ev_sl rfl) (by decide) ?_
        refine s_len_sl UIs.out rfl (by decide) ?_
        first | refine s_lss_t rfl rfl (by omega) (by decide) ?_ | refine s_lss_f rfl rfl (by omega) (by decide) ?_ | refine s_lss_v rfl rfl (by decide) ?_
        refine wl_end ?_
        refine wc_cond_t rfl ?_
        refine wc_skip ?_
        refine k_then ?_
        refine wc_seq ?_
        refine wc_block ?_
        refine wc_seq ?_
        refine wc_region ?_
        refine s_move (ev_sl rfl) (by decide) ?_
        refine s_move (ev_int rfl) (by decide) ?_
        refine s_indexRow (k := i) UIs.out TIs.size rfl rfl (by omega) (by omega) (by decide) ?_
        refine s_load1 TIs.out rfl (hh.cell_row (i := 2) rfl (by first | assumption | (simp only [Nat.mul_one]; assumption))) (by decide) ?_
        first | refine s_eql_t rfl rfl (by omega) (by decide) ?_ | refine s_eql_f rfl rfl (by omega) (by decide) ?_ | refine s_eql_v rfl rfl (by decide) ?_
        refine wl_end ?_
        refine wc_cond_f rfl ?_
        refine wc_skip ?_
        refine b_norm ?_
        refine k_then ?_
        refine wc_region ?_
        refine s_move (ev_int rfl) (by decide) ?_
        refine s_addi rfl rfl (by omega) (by omega) (by decide) ?_
        refine s_assign (ev_int rfl) (by decide) ?_
        refine wl_nil ?_
        refine k_then ?_
        -- at ('round',)
        refine ⟨⟨i + 1, _, _, P, _, by omega, rfl, by rw [hsn, hP]; simp, rfl, by omega, hPb, hh⟩, by show xs.length - (i + 1) < xs.length - i; omega, ?_⟩
        (repeat (first | exact agree_mask _ _ _ | refine agree_upd rfl ?_ | refine agree_mask2 rfl ?_))
      · obtain rfl : d = 1 := by omega
        have hb2 : P + bN b * 2 ^ i < 2 ^ (max K ((digs 2 (bN b)).length + i) + 1) := by
          have h1 : 2 ^ K ≤ 2 ^ max K ((digs 2 (bN b)).length + i) := Nat.pow_le_pow_right (by omega) (by omega)
          have h2 : 2 ^ ((digs 2 (bN b)).length + i) ≤ 2 ^ max K ((digs 2 (bN b)).length + i) := Nat.pow_le_pow_right (by omega) (by omega)
          have h3 : bN b * 2 ^ i < 2 ^ (digs 2 (bN b)).length * 2 ^ i := Nat.mul_lt_mul_of_pos_right hYl (Nat.pow_pos (by omega))
          rw [← Nat.pow_add] at h3
          rw [Nat.pow_succ]; omega
        refine wc_seq ?_
        refine wc_seq ?_
        refine wc_region ?_
        refine s_move (ev_int rfl) (by decide) ?_
        refine s_move (ev_sl rfl) (by decide) ?_
        refine s_len_sl UIs.out rfl (by decide) ?_
        first | refine s_lss_t rfl rfl (by omega) (by decide) ?_ | refine s_lss_f rfl rfl (by omega) (by decide) ?_ | refine s_lss_v rfl rfl (by decide) ?_
        refine wl_end ?_
        refine wc_cond_t rfl ?_
        refine wc_skip ?_
        refine k_then ?_
        refine wc_seq ?_
        refine wc_block ?_
        refine wc_seq ?_
        refine wc_region ?_
        refine s_move (ev_sl rfl) (by decide) ?_
        refine s_move (ev_int rfl) (by decide) ?_
        refine s_indexRow (k := i) UIs.out TIs.size rfl rfl (by omega) (by omega) (by decide) ?_
        refine s_load1 TIs.out rfl (hh.cell_row (i := 2) rfl (by first | assumption | (simp only [Nat.mul_one]; assumption))) (by decide) ?_
        first | refine s_eql_t rfl rfl (by omega) (by decide) ?_ | refine s_eql_f rfl rfl (by omega) (by decide) ?_ | refine s_eql_v rfl rfl (by decide) ?_
        refine wl_end ?_
        refine wc_cond_t rfl ?_
        refine wc_region ?_
        refine s_move (ev_sl rfl) (by decide) ?_
        refine s_move (ev_sl rfl) (by decide) ?_
        refine s_move (ev_int rfl) (by decide) ?_
        -- at some 27 := Op.call { callee := Callee.value (Operand.func 174), args := #[Operand.tmp 24, Operand.tmp
        refine s_callf (rplus_calls _ _ _ _ _ _ i (digK 2 K P) (digs 2 (bN b)) _ (hh.sl_row (i := 0) rfl) (hh.sl_row (i := 1) rfl) (dg_digK (by omega) _ _) (can_2 _) (by omega) (by omega) (by omega)) FnIs.out rfl (by decide) ?_
        rintro e_ w_ ⟨b27, rfl, hown_, hb_⟩
        refine ⟨_, rfl, ?_⟩
        rw [dig_2, dig_digK_lt hPb] at hown_
        replace hh := (hh.push_new (x := .row _ _ _ _ _ _) hb_ hown_).sub (.cons_cons _ (.cons _ (List.Sublist.refl _)))
        refine s_assign (ev_sl rfl) (by decide) ?_
        refine wl_nil ?_
        refine b_norm ?_
        refine k_then ?_
        refine wc_region ?_
        refine s_move (ev_int rfl) (by decide) ?_
        refine s_addi rfl rfl (by omega) (by omega) (by decide) ?_
        refine s_assign (ev_int rfl) (by decide) ?_
        refine wl_nil ?_
        refine k_then ?_
        -- at ('round',)
        refine ⟨⟨i + 1, _, _, _, _, by omega, rfl, ?_, rfl, by omega, hb2, hh⟩, by show xs.length - (i + 1) < xs.length - i; omega, ?_⟩
        · rw [hsn, hP, Nat.add_mul, Nat.mul_one, Nat.mul_comm (2 ^ i)]
        · (repeat (first | exact agree_mask _ _ _ | refine agree_upd rfl ?_ | refine agree_mask2 rfl ?_))
    · rw [List.take_of_length_le (by omega), hX] at hP
      refine wc_seq ?_
      refine wc_seq ?_
      refine wc_region ?_
      refine s_move (ev_int rfl) (by decide) ?_
      refine s_move (ev_sl rfl) (by decide) ?_
      refine s_len_sl UIs.out rfl (by decide) ?_
      first | refine s_lss_t rfl rfl (by omega) (by decide) ?_ | refine s_lss_f rfl rfl (by omega) (by decide) ?_ | refine s_lss_v rfl rfl (by decide) ?_
      refine wl_end ?_
      refine wc_cond_f rfl ?_
      refine wc_exit ?_
      refine k_exit ?_
      refine k_exit ?_
      refine b_here ?_
      refine k_then ?_
      refine wc_seq ?_
      refine wc_region ?_
      refine s_move (ev_sl rfl) (by decide) ?_
      -- at some 29 := Op.call { callee := Callee.value (Operand.func 143), args := #[Operand.tmp 28], argTypes :
      refine s_callf (rtext_calls _ _ _ (digK 2 K P) _ (hh.sl_row (i := 0) rfl) (dg_digK (by omega) _ _) (hh.row_cap (i := 0) rfl) (by omega)) FnIs.out rfl (by decide) ?_
      rintro e_ w29 ⟨rfl, hb_⟩
      refine ⟨_, rfl, ?_⟩
      replace hh := hh.ext hb_
      rw [dig_digK_lt hPb, hP]
      refine s_assign (ev_str rfl) (by decide) ?_
      refine wl_end ?_
      refine wc_ret ?_
      -- at ('end', 'ret')
      refine ret1 (by first | exact .inr rfl | exact .inl rfl) rfl (v_str rfl) ?_
      exact ⟨rfl, hh.below⟩
theorem div_step (X Y k : Nat) (hY : 0 < Y) : X / 2 ^ k % Y = (if Y ≤ X / 2 ^ k % 2 + 2 * (X / 2 ^ (k + 1) % Y) then X / 2 ^ k % 2 + 2 * (X / 2 ^ (k + 1) % Y) - Y else X / 2 ^ k % 2 + 2 * (X / 2 ^ (k + 1) % Y)) ∧
    X / 2 ^ k / Y % 2 = (if Y ≤ X / 2 ^ k % 2 + 2 * (X / 2 ^ (k + 1) % Y) then 1 else 0) ∧ X / 2 ^ k / Y / 2 = X / 2 ^ (k + 1) / Y := by
  have h1 := div_pow_succ X k
  have hb : X / 2 ^ k % 2 < 2 := Nat.mod_lt _ (by omega)
  generalize X / 2 ^ k % 2 = b at *
  generalize X / 2 ^ k = Z at *
  generalize X / 2 ^ (k + 1) = V at *
  have h2 := Nat.div_add_mod V Y
  have h3 := Nat.mod_lt V hY
  generalize V / Y = q at *
  generalize V % Y = r at *
  have e : Z = (b + 2 * r) + Y * (2 * q) := by rw [h1, ← h2, Nat.mul_add, Nat.mul_left_comm]; omega
  rw [e, Nat.add_mul_mod_self_left, Nat.add_mul_div_left _ _ hY]
  by_cases hc : Y ≤ b + 2 * r
  · rw [if_pos hc, if_pos hc]
    have e2 : b + 2 * r = (b + 2 * r - Y) + Y * 1 := by omega
    have h4 : b + 2 * r - Y < Y := by omega
    have h5 : (b + 2 * r) / Y = 1 := by rw [e2, Nat.add_mul_div_left _ _ hY, Nat.div_eq_of_lt h4]
    have h6 : (b + 2 * r) % Y = b + 2 * r - Y := by conv => lhs; rw [e2, Nat.add_mul_mod_self_left, Nat.mod_eq_of_lt h4]
    rw [h5, h6]
    omega
  · rw [if_neg hc, if_neg hc, Nat.mod_eq_of_lt (by omega), Nat.div_eq_of_lt (by omega)]
    omega
theorem rDiv_calls (a b : ByteArray) (w : World) (ha : a.size ≤ 1000000000) (hb : b.size ≤ 1000000000) (hb0 : bN b ≠ 0) :
    Calls Tryz.prog 164 #[.string a, .string b] w fun e w' => e = .returned (.tuple #[.string (sN (bN a / bN b)), .string (sN (bN a % bN b)), .bool true]) ∧ Below w.heap.size w w' := by
  have hh := Hp.start w
  have h1 := bits_len a
  have h2 := bits_len b
  have hX := dig_2 (bN a)
  have hXd := can_2 (bN a)
  have hXl : bN a < 2 ^ (digs 2 (bN a)).length := lt_blen _
  have hYp : 0 < (digs 2 (bN b)).length := blen_pos hb0
  have hget : ∀ k, k < (digs 2 (bN a)).length → (digs 2 (bN a))[k]? = some (bN a / 2 ^ k % 2) := fun k hk => digs_get (by omega) hk
  refine calls_vc (N := 52) (l := [.string a, .string b]) Tryz.func164 rfl rfl (by simp) ?_
  refine wc_seq ?_
  refine wc_region ?_
  refine s_assign (ev_str rfl) (by decide) ?_
  refine s_assign (ev_str rfl) (by decide) ?_
  refine s_assign (ev_bool rfl) (by decide) ?_
  refine wl_end ?_
  refine wc_seq ?_
  refine wc_region ?_
  refine s_move (ev_str rfl) (by decide) ?_
  -- at some 13 := Op.call { callee := Callee.value (Operand.func 157), args := #[Operand.tmp 12], argTypes :
  refine s_callf (rbits_calls a _ ha) FnIs.out rfl (by decide) ?_
  rintro e_ w13 ⟨A13, c13, rfl, hown_, hb_⟩
  refine ⟨_, rfl, ?_⟩
  replace hh := hh.push_new (x := .row _ _ _ _ _ _) hb_ hown_
  refine s_move (ev_str rfl) (by decide) ?_
  -- at some 15 := Op.call { callee := Callee.value (Operand.func 157), args := #[Operand.tmp 14], argTypes :
  refine s_callf (rbits_calls b _ hb) FnIs.out rfl (by decide) ?_
  rintro e_ w15 ⟨A15, c15, rfl, hown_, hb_⟩
  refine ⟨_, rfl, ?_⟩
  replace hh := hh.push_new (x := .row _ _ _ _ _ _) hb_ hown_
  refine s_assign (ev_sl rfl) (by decide) ?_
  refine s_assign (ev_sl rfl) (by decide) ?_
  refine wl_end ?_
  refine wc_seq ?_
  refine wc_seq ?_
  refine wc_region ?_
  refine s_move (ev_sl rfl) (by decide) ?_
  refine s_len_sl UIs.out rfl (by decide) ?_
  first | refine s_eql_t rfl rfl (by omega) (by decide) ?_ | refine s_eql_f rfl rfl (by omega) (by decide) ?_ | refine s_eql_v rfl rfl (by decide) ?_
  refine wl_end ?_
  refine wc_cond_f rfl ?_
  refine wc_skip ?_
  refine k_then ?_
  refine wc_seq ?_
  refine wc_region ?_
  refine s_move (ev_sl rfl) (by decide) ?_
  refine s_len_sl UIs.out rfl (by decide) ?_
  refine wl_make hh rfl rfl rfl rfl UIs.out TIs.out rfl (by omega) (by omega) (by decide) ?_
  intro b21 w21 hh
  refine s_assign (ev_sl rfl) (by decide) ?_
  refine wl_end ?_
  refine wc_seq ?_
  refine wc_region ?_
  refine s_assign (ev_sl rfl) (by decide) ?_
  refine wl_end ?_
  refine wc_seq ?_
  refine wc_seq ?_
  refine wc_region ?_
  refine s_move (ev_sl rfl) (by decide) ?_
  refine s_len_sl UIs.out rfl (by decide) ?_
  refine s_subi rfl rfl (by omega) (by omega) (by decide) ?_
  refine s_assign (ev_int rfl) (by decide) ?_
  refine wl_end ?_
  refine wc_block ?_
  -- at a loop
  rw [zrep_u8] at hh
  generalize hxs : digs 2 (bN a) = xs at *
  replace hh := hh.nil_row 5 1
  refine wc_loop2 [10, 11, 25, 26, 27, 28, 29, 30, 31, 32, 33, 34, 35, 36, 37, 38, 39, 40, 41, 42, 43, 44, 45, 46, 47] 10 11
    (fun v j w' => ∃ (k : Nat) (A : Option Addr) (c' : Nat), k ≤ xs.length ∧ j = .int .i64 ((k : Int) - 1) ∧ v = .slice A (digs 2 (bN a / 2 ^ k % bN b)).length c' ∧ Hp w [.row A (digs 2 (bN a / 2 ^ k % bN b)).length c' 5 1 (u8n (digs 2 (bN a / 2 ^ k % bN b))), .row (some ⟨b21, 0, none⟩) xs.length xs.length 5 1 (u8n (List.replicate k 0 ++ digK 2 (xs.length - k) (bN a / 2 ^ k / bN b))), .row A15 (digs 2 (bN b)).length c15 5 1 (u8n (digs 2 (bN b))), .row A13 xs.length c13 5 1 (u8n xs)] w')
    (fun _ j _ => (intOf j + 1).toNat) ?_ ?_
  · refine ⟨xs.length, none, 0, Nat.le_refl _, rfl, ?_, ?_⟩
    · rw [Nat.div_eq_of_lt hXl, Nat.zero_mod, digs_zero (by omega)]; rfl
    · rw [Nat.div_eq_of_lt hXl, Nat.zero_mod, digs_zero (by omega), Nat.sub_self]; simp only [digK, List.append_nil]; exact hh
  · clear hh
    rintro ρ' v j w' ⟨k, A, c', hk, rfl, rfl, hh⟩
    -- 
    -- 
    by_cases h0 : k = 0
    · subst h0
      rw [Nat.pow_zero, Nat.div_one, Nat.sub_zero, List.replicate_zero, List.nil_append] at hh
      rw [Nat.pow_zero, Nat.div_one]
      have hq : bN a / bN b < 2 ^ xs.length := Nat.lt_of_le_of_lt (Nat.div_le_self _ _) hXl
      have hrl : (digs 2 (bN a % bN b)).length ≤ (digs 2 (bN b)).length := digs_len_mono (by omega) (Nat.le_of_lt (Nat.mod_lt _ (by omega)))
      refine wc_seq ?_
      refine wc_seq ?_
      refine wc_region ?_
      refine s_move (ev_int rfl) (by decide) ?_
      first | refine s_geq_t rfl rfl (by omega) (by decide) ?_ | refine s_geq_f rfl rfl (by omega) (by decide) ?_ | refine s_geq_v rfl rfl (by decide) ?_
      refine wl_end ?_
      refine wc_cond_f rfl ?_
      refine wc_exit ?_
      refine k_exit ?_
      refine k_exit ?_
      refine b_here ?_
      refine k_then ?_
      refine wc_seq ?_
      refine wc_region ?_
      refine s_move (ev_sl rfl) (by decide) ?_
      -- at some 49 := Op.call { callee := Callee.value (Operand.func 143), args := #[Operand.tmp 48], argTypes :
      refine s_callf (rtext_calls _ _ _ (digK 2 xs.length (bN a / bN b)) _ (hh.sl_row (i := 1) rfl) (dg_digK (by omega) _ _) (Nat.le_refl _) (by omega)) FnIs.out rfl (by decide) ?_
      rintro e_ w49 ⟨rfl, hb_⟩
      refine ⟨_, rfl, ?_⟩
      replace hh := hh.ext hb_
      rw [dig_digK_lt hq]
      refine s_move (ev_sl rfl) (by decide) ?_
      -- at some 51 := Op.call { callee := Callee.value (Operand.func 143), args := #[Operand.tmp 50], argTypes :
      refine s_callf (rtext_calls _ _ _ (digs 2 (bN a % bN b)) _ (hh.sl_row (i := 0) rfl) (can_2 _) (hh.row_cap (i := 0) rfl) (by omega)) FnIs.out rfl (by decide) ?_
      rintro e_ w51 ⟨rfl, hb_⟩
      refine ⟨_, rfl, ?_⟩
      replace hh := hh.ext hb_
      rw [dig_2]
      refine s_assign (ev_str rfl) (by decide) ?_
      refine s_assign (ev_str rfl) (by decide) ?_
      refine s_assign (ev_bool rfl) (by decide) ?_
      refine wl_end ?_
      refine wc_ret ?_
      -- at ('end', 'ret')
      refine ret3 (by first | exact .inr rfl | exact .inl rfl) rfl (v_str rfl) (v_str rfl) (v_bool rfl) ?_
      exact ⟨rfl, hh.below⟩
    · obtain ⟨i, rfl⟩ : ∃ i, k = i + 1 := ⟨k - 1, by omega⟩
      have hji : ((i + 1 : Nat) : Int) - 1 = (i : Int) := by omega
      obtain ⟨d1, d2, d3⟩ := div_step (bN a) (bN b) i (by omega)
      have hgi := u8n_at (hget i (by omega))
      have hdw : bN a / 2 ^ i % 2 < 2 := Nat.mod_lt _ (by omega)
      have hrl : (digs 2 (bN a / 2 ^ (i + 1) % bN b)).length ≤ (digs 2 (bN b)).length := digs_len_mono (by omega) (Nat.le_of_lt (Nat.mod_lt _ (by omega)))
      have hqk : digK 2 (xs.length - i) (bN a / 2 ^ i / bN b) = (bN a / 2 ^ i / bN b % 2) :: digK 2 (xs.length - (i + 1)) (bN a / 2 ^ (i + 1) / bN b) := by
        rw [show xs.length - i = (xs.length - (i + 1)) + 1 by omega, digK, d3]
      rw [hji]
      obtain ⟨g, rfl⟩ := hh.row_some (i := 3) rfl (by omega)
      refine wc_seq ?_
      refine wc_seq ?_
      refine wc_region ?_
      refine s_move (ev_int rfl) (by decide) ?_
      first | refine s_geq_t rfl rfl (by omega) (by decide) ?_ | refine s_geq_f rfl rfl (by omega) (by decide) ?_ | refine s_geq_v rfl rfl (by decide) ?_
      refine wl_end ?_
      refine wc_cond_t rfl ?_
      refine wc_skip ?_
      refine k_then ?_
      refine wc_seq ?_
      refine wc_block ?_
      refine wc_seq ?_
      refine wc_region ?_
      refine s_move (ev_sl rfl) (by decide) ?_
      refine s_move (ev_int rfl) (by decide) ?_
      refine s_indexRow (k := i) UIs.out TIs.size rfl rfl (by omega) (by omega) (by decide) ?_
      refine s_load1 TIs.out rfl (hh.cell_row (i := 3) rfl (by first | assumption | (simp only [Nat.mul_one]; assumption))) (by decide) ?_
      refine wl_buildSlice hh (cs := [_]) UIs.out TIs.out (evp_cons (ev_int rfl) evp_nil) rfl rfl (by decide) (by decide) (by decide) rfl (by decide) ?_
      intro b33 w33 hh
      refine s_move (ev_sl rfl) (by decide) ?_
      refine wl_append hh (i := 0) rfl rfl rfl (hh.sl_row (i := 1) rfl) UIs.out TIs.out rfl (by decide) (by first | rfl | exact oneCells_u8n _ | exact oneCells_u64s _ | exact oneCells_i64s _ | exact recs_oneCells NR.one _) (by omega) (by omega) (by decide) ?_
      intro A35 c35 w35 hh
      simp only [List.set_cons_zero] at hh
      -- at some 36 := Op.call { callee := Callee.value (Operand.func 163), args := #[Operand.tmp 35], argTypes :
      have e35 : [Value.int .u8 ((bN a / 2 ^ i % 2 : Nat) : Int)] ++ u8n (digs 2 (bN a / 2 ^ (i + 1) % bN b)) = u8n ((bN a / 2 ^ i % 2) :: digs 2 (bN a / 2 ^ (i + 1) % bN b)) := rfl
      rw [e35] at hh
      generalize hR : bN a / 2 ^ (i + 1) % bN b = R at *
      generalize hbt : bN a / 2 ^ i % 2 = bt at *
      have hdg : Dg 2 (bt :: digs 2 R) := Dg.cons hdw (can_2 _)
      have hcv : cutL (bt :: digs 2 R) = digs 2 (bt + 2 * R) := by rw [cutL_digs (by omega) hdg, dig, dig_2]
      have hll : (bt :: digs 2 R).length = 1 + (digs 2 R).length := by rw [List.length_cons]; omega
      have hcl := cutL_len (bt :: digs 2 R)
      refine s_callf (rcut_calls _ _ _ (bt :: digs 2 R) _ (hh.sl_row (i := 0) rfl) (hh.row_cap (i := 0) rfl) (by omega)) FnIs.out rfl (by decide) ?_
      rintro e_ w36 ⟨rfl, hb_⟩
      refine ⟨_, rfl, ?_⟩
      replace hh := hh.ext hb_
      replace hh := hh.cut8 hll
      rw [hcv] at hh hcl
      rw [hcv]
      refine s_assign (ev_sl rfl) (by decide) ?_
      refine wl_end ?_
      refine wc_seq ?_
      refine wc_region ?_
      refine s_move (ev_sl rfl) (by decide) ?_
      refine s_move (ev_sl rfl) (by decide) ?_
      -- at some 39 := Op.call { callee := Callee.value (Operand.func 178), args := #[Operand.tmp 37, Operand.tmp
      refine s_callf (rcompare_calls _ _ _ _ _ _ (digs 2 (bt + 2 * R)) (digs 2 (bN b)) _ (hh.sl_row (i := 0) rfl) (hh.sl_row (i := 3) rfl) (can_2 _) (can_2 _) (by omega) (by omega)) FnIs.out rfl (by decide) ?_
      rintro e_ w39 ⟨rfl, hb_⟩
      refine ⟨_, rfl, ?_⟩
      replace hh := hh.ext hb_
      rw [dig_2, dig_2]
      by_cases hge : bN b ≤ bt + 2 * R
      · have hc : 0 ≤ cmpN (bt + 2 * R) (bN b) := by unfold cmpN; rw [if_neg (by omega)]; split <;> omega
        rw [if_pos hge] at d1 d2
        have hml : bt + 2 * R - bN b < 2 ^ (digs 2 (bt + 2 * R)).length := Nat.lt_of_le_of_lt (Nat.sub_le _ _) (lt_blen _)
        have hcm : cutL (digK 2 (digs 2 (bt + 2 * R)).length (bt + 2 * R - bN b)) = digs 2 (bt + 2 * R - bN b) := by rw [cutL_digs (by omega) (dg_digK (by omega) _ _), dig_digK_lt hml]
        first | refine s_geq_t rfl rfl (by omega) (by decide) ?_ | refine s_geq_f rfl rfl (by omega) (by decide) ?_ | refine s_geq_v rfl rfl (by decide) ?_
        refine wl_end ?_
        refine wc_cond_t rfl ?_
        refine wc_seq ?_
        refine wc_region ?_
        refine s_move (ev_sl rfl) (by decide) ?_
        refine s_move (ev_sl rfl) (by decide) ?_
        -- at some 43 := Op.call { callee := Callee.value (Operand.func 176), args := #[Operand.tmp 41, Operand.tmp
        refine s_callf (rminus_calls _ _ _ _ _ _ (digs 2 (bt + 2 * R)) (digs 2 (bN b)) _ (hh.sl_row (i := 0) rfl) (hh.sl_row (i := 3) rfl) (can_2 _) (can_2 _) (by omega) (by omega) (by rw [dig_2, dig_2]; exact hge)) FnIs.out rfl (by decide) ?_
        rintro e_ w_ ⟨b43, rfl, hown_, hb_⟩
        refine ⟨_, rfl, ?_⟩
        replace hh := hh.push_new (x := .row _ _ _ _ _ _) hb_ hown_
        rw [dig_2, dig_2] at hh
        -- 
        -- at some 44 := Op.call { callee := Callee.value (Operand.func 163), args := #[Operand.tmp 43], argTypes :
        refine s_callf (rcut_calls _ _ _ (digK 2 (digs 2 (bt + 2 * R)).length (bt + 2 * R - bN b)) _ (hh.sl_row (i := 0) rfl) (Nat.le_refl _) (by omega)) FnIs.out rfl (by decide) ?_
        rintro e_ w44 ⟨rfl, hb_⟩
        refine ⟨_, rfl, ?_⟩
        replace hh := hh.ext hb_
        replace hh := hh.cut8 (length_digK _ _)
        rw [hcm] at hh
        rw [hcm]
        have hql : (u8n (List.replicate (i + 1) 0 ++ digK 2 (xs.length - (i + 1)) (bN a / 2 ^ (i + 1) / bN b))).length = xs.length := by rw [length_u8n, List.length_append, List.length_replicate, length_digK]; omega
        refine s_assign (ev_sl rfl) (by decide) ?_
        refine wl_end ?_
        refine wc_region ?_
        refine s_move (ev_sl rfl) (by decide) ?_
        refine s_move (ev_int rfl) (by decide) ?_
        refine s_indexRow (k := i) UIs.out TIs.size rfl rfl (by omega) (by omega) (by decide) ?_
        -- at none := Op.store 5 (Operand.tmp 47) (Operand.const (Value.int IntKind.u8 1))
        refine wl_store_row hh (i := 3) (vs := [_]) rfl rfl (ev_int rfl) rfl TIs.out rfl (by rw [hql]; omega) rfl ?_
        intro ws hh
        simp only [List.set_cons_zero, List.set_cons_succ] at hh
        rw [Nat.mul_one, splice_one (by rw [hql]; omega)] at hh
        have hset : (u8n (List.replicate (i + 1) 0 ++ digK 2 (xs.length - (i + 1)) (bN a / 2 ^ (i + 1) / bN b))).set i (.int .u8 1) = u8n (List.replicate i 0 ++ digK 2 (xs.length - i) (bN a / 2 ^ i / bN b)) := by
          have := u8n_set (List.replicate (i + 1) 0 ++ digK 2 (xs.length - (i + 1)) (bN a / 2 ^ (i + 1) / bN b)) i 1
          rw [hqk, d2, ← rep_set]
          exact this
        rw [hset] at hh
        replace hh := hh.sub (.cons_cons _ (.cons _ (.cons _ (List.Sublist.refl _))))
        refine wl_nil ?_
        refine b_norm ?_
        refine k_then ?_
        refine wc_region ?_
        refine s_move (ev_int rfl) (by decide) ?_
        refine s_subi rfl rfl (by omega) (by omega) (by decide) ?_
        refine s_assign (ev_int rfl) (by decide) ?_
        refine wl_nil ?_
        refine k_then ?_
        -- at ('round',)
        refine ⟨⟨i, _, _, by omega, rfl, by rw [d1]; rfl, by rw [d1]; exact hh⟩, by show ((i : Int) - 1 + 1).toNat < ((i : Int) + 1).toNat; omega, ?_⟩
        (repeat (first | exact agree_mask _ _ _ | refine agree_upd rfl ?_ | refine agree_mask2 rfl ?_))
      · have hc : ¬ 0 ≤ cmpN (bt + 2 * R) (bN b) := by rw [cmpN_lt (by omega)]; omega
        rw [if_neg hge] at d1 d2
        first | refine s_geq_t rfl rfl (by omega) (by decide) ?_ | refine s_geq_f rfl rfl (by omega) (by decide) ?_ | refine s_geq_v rfl rfl (by decide) ?_
        refine wl_end ?_
        refine wc_cond_f rfl ?_
        refine wc_skip ?_
        refine b_norm ?_
        refine k_then ?_
        refine wc_region ?_
        refine s_move (ev_int rfl) (by decide) ?_
        refine s_subi rfl rfl (by omega) (by omega) (by decide) ?_
        refine s_assign (ev_int rfl) (by decide) ?_
        refine wl_nil ?_
        refine k_then ?_
        -- at ('round',)
        have hrep : List.replicate (i + 1) 0 ++ digK 2 (xs.length - (i + 1)) (bN a / 2 ^ (i + 1) / bN b) = List.replicate i 0 ++ digK 2 (xs.length - i) (bN a / 2 ^ i / bN b) := by
          rw [hqk, d2, List.replicate_succ', List.append_assoc]; rfl
        rw [hrep] at hh
        replace hh := hh.sub (.cons_cons _ (.cons _ (List.Sublist.refl _)))
        refine ⟨⟨i, _, _, by omega, rfl, by rw [d1]; rfl, by rw [d1]; exact hh⟩, by show ((i : Int) - 1 + 1).toNat < ((i : Int) + 1).toNat; omega, ?_⟩
        (repeat (first | exact agree_mask _ _ _ | refine agree_upd rfl ?_ | refine agree_mask2 rfl ?_))
end Go.Proofs.YthmmofllajkejaaGreatDoor
