/- The walks through the document's answer for natural numbers (ogeeref01): differences, and the package's own functions. -/
import Derived.Test.YthmmofllajkejaaGreatDoorRefB
namespace Go.Proofs.YthmmofllajkejaaGreatDoor
open Go.RowKit
-- umode
theorem sub_bit {X Y : Nat} (h : Y ≤ X) (i : Nat) : ((2 + X / 2 ^ i % 2 + 256 - Y / 2 ^ i % 2) % 256 + 256 - (if X % 2 ^ i < Y % 2 ^ i then 1 else 0)) % 256 % 2 = (X - Y) / 2 ^ i % 2 ∧
    (1 + 256 - ((2 + X / 2 ^ i % 2 + 256 - Y / 2 ^ i % 2) % 256 + 256 - (if X % 2 ^ i < Y % 2 ^ i then 1 else 0)) % 256 / 2) % 256 = (if X % 2 ^ (i + 1) < Y % 2 ^ (i + 1) then 1 else 0) := by
  have hX := Nat.div_add_mod X (2 ^ i)
  have hY := Nat.div_add_mod Y (2 ^ i)
  have hp : 0 < 2 ^ i := Nat.pow_pos (by omega)
  have hX2 : X % 2 ^ (i + 1) = X % 2 ^ i + 2 ^ i * (X / 2 ^ i % 2) := by rw [Nat.pow_succ, Nat.mod_mul]
  have hY2 : Y % 2 ^ (i + 1) = Y % 2 ^ i + 2 ^ i * (Y / 2 ^ i % 2) := by rw [Nat.pow_succ, Nat.mod_mul]
  have hXl := Nat.mod_lt X hp
  have hYl := Nat.mod_lt Y hp
  rw [hX2, hY2]
  generalize hx1 : X / 2 ^ i = x1 at *
  generalize hy1 : Y / 2 ^ i = y1 at *
  generalize hx0 : X % 2 ^ i = x0 at *
  generalize hy0 : Y % 2 ^ i = y0 at *
  have key : ∀ b : Nat, b = (if x0 < y0 then 1 else 0) → (X - Y) / 2 ^ i = x1 - y1 - b ∧ y1 + b ≤ x1 := by
    intro b hb
    have hle : y1 + b ≤ x1 := by
      refine Nat.le_of_not_lt fun hlt => ?_
      have h1 : 2 ^ i * (x1 + 1) ≤ 2 ^ i * (y1 + b) := Nat.mul_le_mul_left _ hlt
      rw [Nat.mul_add, Nat.mul_add] at h1
      split at hb
      · subst hb; omega
      · subst hb; omega
    refine ⟨?_, hle⟩
    have e : X - Y = (x0 + 2 ^ i * b - y0) + 2 ^ i * (x1 - y1 - b) := by
      have h2 : 2 ^ i * (x1 - y1 - b) = 2 ^ i * x1 - 2 ^ i * y1 - 2 ^ i * b := by rw [Nat.mul_sub, Nat.mul_sub]
      have h3 : 2 ^ i * (y1 + b) ≤ 2 ^ i * x1 := Nat.mul_le_mul_left _ hle
      rw [Nat.mul_add] at h3
      split at hb
      · subst hb; omega
      · subst hb; omega
    rw [e, Nat.add_mul_div_left _ _ hp, Nat.div_eq_of_lt, Nat.zero_add]
    split at hb
    · subst hb; omega
    · subst hb; omega
  obtain ⟨k1, k2⟩ := key _ rfl
  rw [k1]
  have hlt : (x0 + 2 ^ i * (x1 % 2) < y0 + 2 ^ i * (y1 % 2)) ↔ (x1 % 2 < y1 % 2 ∨ x1 % 2 = y1 % 2 ∧ x0 < y0) := by
    rcases Nat.mod_two_eq_zero_or_one x1 with h1 | h1 <;> rcases Nat.mod_two_eq_zero_or_one y1 with h2 | h2 <;> rw [h1, h2] <;> omega
  by_cases hb : x0 < y0
  · rw [if_pos hb] at k2 ⊢
    refine ⟨by omega, ?_⟩
    by_cases hc : x0 + 2 ^ i * (x1 % 2) < y0 + 2 ^ i * (y1 % 2)
    · rw [if_pos hc]; rw [hlt] at hc; omega
    · rw [if_neg hc]; rw [hlt] at hc; omega
  · rw [if_neg hb] at k2 ⊢
    refine ⟨by omega, ?_⟩
    by_cases hc : x0 + 2 ^ i * (x1 % 2) < y0 + 2 ^ i * (y1 % 2)
    · rw [if_pos hc]; rw [hlt] at hc; omega
    · rw [if_neg hc]; rw [hlt] at hc; omega
theorem rminus_calls (A B : Option Addr) (n c m c' : Nat) (xs ys : List Nat) (w : World) (hx : Sl w A n 1 (u8n xs)) (hy : Sl w B m 1 (u8n ys)) (hdx : Dg 2 xs) (hdy : Dg 2 ys) (hn : n ≤ 100000000000) (hm : m ≤ 100000000000) (hle : dig 2 ys ≤ dig 2 xs) :
    Calls Tryz.prog 176 #[.slice A n c, .slice B m c'] w fun e w' => ∃ b, e = .returned (.slice (some ⟨b, 0, none⟩) n n) ∧ w'.ownsRow w.heap.size 5 1 (.slice (some ⟨b, 0, none⟩) n n) n (u8n (digK 2 n (dig 2 xs - dig 2 ys))) ∧ Below w.heap.size w w' := by
  have hlx := hx.1
  have hly := hy.1
  rw [length_u8n] at hlx hly
  have hh := Hp.start w
  have hand : ∀ z : Nat, z &&& 1 = z % 2 := fun z => Nat.and_one_is_mod z
  refine calls_vc (N := 37) (l := [.slice A n c, .slice B m c']) Tryz.func176 rfl rfl (by simp) ?_
  refine wc_seq ?_
  refine wc_region ?_
  refine s_assign (ev_sl rfl) (by decide) ?_
  refine wl_end ?_
  refine wc_seq ?_
  refine wc_region ?_
  refine s_move (ev_sl rfl) (by decide) ?_
  refine s_len_sl UIs.out rfl (by decide) ?_
  refine wl_make (n := n) hh rfl rfl (by omega) (by omega) UIs.out TIs.out rfl (by omega) (by omega) (by decide) ?_
  intro b11 w11 hh
  refine s_assign (ev_sl rfl) (by decide) ?_
  refine wl_end ?_
  refine wc_seq ?_
  refine wc_region ?_
  refine s_assign (ev_int rfl) (by decide) ?_
  refine wl_end ?_
  refine wc_seq ?_
  refine wc_seq ?_
  refine wc_region ?_
  refine s_assign (ev_int rfl) (by decide) ?_
  refine wl_end ?_
  refine wc_block ?_
  -- at a loop
  rw [zrep_u8] at hh
  refine wc_loop2 [6, 7, 8, 12, 13, 14, 15, 16, 17, 18, 19, 20, 21, 22, 23, 24, 25, 26, 27, 28, 29, 30, 31, 32, 33, 34, 35] 6 7
    (fun cr v w' => ∃ i : Nat, i ≤ n ∧ v = .int .i64 (i : Int) ∧ cr = .int .u8 ((if dig 2 xs % 2 ^ i < dig 2 ys % 2 ^ i then 1 else 0 : Nat) : Int) ∧ Hp w [.row (some ⟨b11, 0, none⟩) n n 5 1 (u8n (digK 2 i (dig 2 xs - dig 2 ys) ++ List.replicate (n - i) 0))] w')
    (fun _ v _ => n - (intOf v).toNat) ?_ ?_
  · exact ⟨0, Nat.zero_le _, rfl, by simp [Nat.mod_one]; rfl, hh⟩
  · clear hh
    rintro ρ' cr v w' ⟨i, hi, rfl, rfl, hh⟩
    -- 
    -- 
    by_cases hlt : i < n
    · obtain ⟨b1, b2⟩ := sub_bit hle i
      have hxb : dig 2 xs / 2 ^ i % 2 < 2 := Nat.mod_lt _ (by omega)
      have hyb : dig 2 ys / 2 ^ i % 2 < 2 := Nat.mod_lt _ (by omega)
      have hcb : (if dig 2 xs % 2 ^ i < dig 2 ys % 2 ^ i then 1 else 0 : Nat) ≤ 1 := by split <;> omega
      have hll : (u8n (digK 2 i (dig 2 xs - dig 2 ys) ++ List.replicate (n - i) 0)).length = n := by rw [length_u8n, List.length_append, length_digK, List.length_replicate]; omega
      have hfk := fillK (N := dig 2 xs - dig 2 ys) hlt
      refine wc_seq ?_
      refine wc_seq ?_
      refine wc_region ?_
      refine s_move (ev_int rfl) (by decide) ?_
      refine s_move (ev_sl rfl) (by decide) ?_
      refine s_len_sl UIs.out rfl (by decide) ?_
      first | refine s_lss_t rfl rfl (by omega) (by decide) ?_ | refine s_lss_f rfl rfl (by omega) (by decide) ?_ | refine s_lss_v rfl rfl (by decide) ?_
      refine wl_end ?_
      refine wc_cond_t rfl ?_
      refine wc_skip ?_
      refine k_then ?_
      refine wc_seq ?_
      refine wc_block ?_
      refine wc_seq ?_
      refine wc_region ?_
      refine s_move (ev_sl rfl) (by decide) ?_
      refine s_move (ev_int rfl) (by decide) ?_
      -- at some 20 := Op.call { callee := Callee.value (Operand.func 186), args := #[Operand.tmp 18, Operand.tmp
      refine s_callf (rbit_calls A n c i xs _ (hx.ext hh.below) hdx (by omega) (by omega)) FnIs.out rfl (by decide) ?_
      rintro e_ w20 ⟨rfl, hb_⟩
      refine ⟨_, rfl, ?_⟩
      replace hh := hh.ext hb_
      refine s_addu (a := 2) rfl rfl (by decide) ?_
      refine s_move (ev_sl rfl) (by decide) ?_
      refine s_move (ev_int rfl) (by decide) ?_
      -- at some 24 := Op.call { callee := Callee.value (Operand.func 186), args := #[Operand.tmp 22, Operand.tmp
      refine s_callf (rbit_calls B m c' i ys _ (hy.ext hh.below) hdy (by omega) (by omega)) FnIs.out rfl (by decide) ?_
      rintro e_ w24 ⟨rfl, hb_⟩
      refine ⟨_, rfl, ?_⟩
      replace hh := hh.ext hb_
      generalize hC : (if dig 2 xs % 2 ^ i < dig 2 ys % 2 ^ i then 1 else 0 : Nat) = C at *
      generalize hX : dig 2 xs / 2 ^ i % 2 = X at *
      generalize hY : dig 2 ys / 2 ^ i % 2 = Y at *
      have es : ((2 + X) % 256 + 256 - Y) % 256 = (2 + X + 256 - Y) % 256 := by omega
      have hS : ((2 + X + 256 - Y) % 256 + 256 - C) % 256 < 256 := Nat.mod_lt _ (by omega)
      refine s_subu rfl rfl (by omega) (by decide) ?_
      refine s_move (ev_int rfl) (by decide) ?_
      -- at some 27
      rw [es]
      refine s_subu rfl rfl (by omega) (by decide) ?_
      refine s_assign (ev_int rfl) (by decide) ?_
      refine wl_end ?_
      refine wc_seq ?_
      refine wc_region ?_
      refine s_move (ev_sl rfl) (by decide) ?_
      refine s_move (ev_int rfl) (by decide) ?_
      refine s_move (ev_int rfl) (by decide) ?_
      refine s_andu (b := 1) rfl rfl (by first | assumption | omega) (by first | assumption | omega) (by decide) ?_
      refine s_indexRow (k := i) UIs.out TIs.size rfl rfl (by omega) (by omega) (by decide) ?_
      -- at none := Op.store 5 (Operand.tmp 32) (Operand.tmp 31)
      refine wl_store_row hh (i := 0) (vs := [_]) rfl rfl (ev_int rfl) rfl TIs.out rfl (by rw [hll]; omega) rfl ?_
      intro ws hh
      simp only [List.set_cons_zero] at hh
      rw [hand, b1, Nat.mul_one, splice_one (by rw [hll]; omega), u8n_set, hfk] at hh
      refine wl_end ?_
      refine wc_region ?_
      refine s_move (ev_int rfl) (by decide) ?_
      refine s_shruc (s := 1) (m := 2) rfl rfl (by decide) (by decide) (by decide) ?_
      refine s_subu (a := 1) rfl rfl (by omega) (by decide) ?_
      refine s_assign (ev_int rfl) (by decide) ?_
      refine wl_nil ?_
      refine b_norm ?_
      refine k_then ?_
      refine wc_region ?_
      refine s_move (ev_int rfl) (by decide) ?_
      refine s_addi rfl rfl (by omega) (by omega) (by decide) ?_
      refine s_assign (ev_int rfl) (by decide) ?_
      refine wl_nil ?_
      refine k_then ?_
      -- at ('round',)
      refine ⟨⟨i + 1, by omega, rfl, by rw [← b2]; rfl, hh⟩, by show n - (i + 1) < n - i; omega, ?_⟩
      (repeat (first | exact agree_mask _ _ _ | refine agree_upd rfl ?_ | refine agree_mask2 rfl ?_))
    · obtain rfl : i = n := by omega
      rw [Nat.sub_self, List.replicate_zero, List.append_nil] at hh
      refine wc_seq ?_
      refine wc_seq ?_
      refine wc_region ?_
      refine s_move (ev_int rfl) (by decide) ?_
      refine s_move (ev_sl rfl) (by decide) ?_
      refine s_len_sl UIs.out rfl (by decide) ?_
      first | refine s_lss_t rfl rfl (by omega) (by decide) ?_ | refine s_lss_f rfl rfl (by omega) (by decide) ?_ | refine s_lss_v rfl rfl (by decide) ?_
      refine wl_end ?_
      refine wc_cond_f rfl ?_
      refine wc_exit ?_
      refine k_exit ?_
      refine k_exit ?_
      refine b_here ?_
      refine k_then ?_
      refine wc_seq ?_
      refine wc_region ?_
      refine s_move (ev_sl rfl) (by decide) ?_
      refine s_assign (ev_sl rfl) (by decide) ?_
      refine wl_end ?_
      refine wc_ret ?_
      -- at ('end', 'ret')
      refine ret1 (by first | exact .inr rfl | exact .inl rfl) rfl (v_sl rfl) ?_
      exact ⟨_, rfl, hh.at_ (i := 0) rfl, hh.below⟩
theorem rOf_calls (n : Nat) (w : World) (hn : n < 18446744073709551616) :
    Calls Tryz.prog 111 #[.int .u64 (n : Int)] w fun e w' => e = .returned (.string (sN n)) ∧ Below w.heap.size w w' := by
  have hh := Hp.start w
  refine calls_vc (N := 16) (l := [.int .u64 (n : Int)]) Tryz.func111 rfl rfl (by simp) ?_
  refine wc_seq ?_
  refine wc_region ?_
  refine s_assign (ev_str rfl) (by decide) ?_
  refine wl_end ?_
  refine wc_seq ?_
  refine wc_region ?_
  refine s_assign (ev_sl rfl) (by decide) ?_
  refine wl_end ?_
  refine wc_seq ?_
  refine wc_block ?_
  -- at a loop
  replace hh := hh.nil_row 5 1
  refine wc_loop2 [0, 3, 4, 5, 6, 7, 8, 9, 10, 11, 12, 13] 0 3
    (fun v o w' => ∃ (k m : Nat) (A : Option Addr) (c : Nat), v = .int .u64 (m : Int) ∧ m < 18446744073709551616 ∧ k ≤ 64 ∧ m < 2 ^ (64 - k) ∧ o = .slice A k c ∧ m = n / 2 ^ k ∧ Hp w [.row A k c 5 1 (u8n (digK 2 k n))] w')
    (fun v _ _ => (intOf v).toNat) ?_ ?_
  · exact ⟨0, n, none, 0, rfl, hn, by omega, by simpa using hn, rfl, by simp, hh⟩
  · clear hh
    rintro ρ' v o w' ⟨k, m, A, c, rfl, hm, hk, hmk, rfl, hmn, hh⟩
    -- 
    -- 
    by_cases h0 : m = 0
    · subst h0
      refine wc_seq ?_
      refine wc_seq ?_
      refine wc_region ?_
      refine s_move (ev_int rfl) (by decide) ?_
      first | refine s_gtr_t rfl rfl (by omega) (by decide) ?_ | refine s_gtr_f rfl rfl (by omega) (by decide) ?_ | refine s_gtr_v rfl rfl (by decide) ?_
      refine wl_end ?_
      refine wc_cond_f rfl ?_
      refine wc_exit ?_
      refine k_exit ?_
      refine k_exit ?_
      refine b_here ?_
      refine k_then ?_
      refine wc_seq ?_
      refine wc_region ?_
      refine s_move (ev_sl rfl) (by decide) ?_
      -- at some 15 := Op.call { callee := Callee.value (Operand.func 143), args := #[Operand.tmp 14], argTypes :
      refine s_callf (rtext_calls _ _ _ (digK 2 k n) _ (hh.sl_row (i := 0) rfl) (dg_digK (by omega) _ _) (hh.row_cap (i := 0) rfl) (by omega)) FnIs.out rfl (by decide) ?_
      rintro e_ w15 ⟨rfl, hb_⟩
      refine ⟨_, rfl, ?_⟩
      replace hh := hh.ext hb_
      have hlt : n < 2 ^ k := by
        have := Nat.div_add_mod n (2 ^ k)
        have h2 := Nat.mod_lt n (Nat.pow_pos (n := k) (show 0 < 2 by omega))
        rw [← hmn] at this
        omega
      rw [dig_digK_lt hlt]
      refine s_assign (ev_str rfl) (by decide) ?_
      refine wl_end ?_
      refine wc_ret ?_
      -- at ('end', 'ret')
      refine ret1 (by first | exact .inr rfl | exact .inl rfl) rfl (v_str rfl) ?_
      exact ⟨rfl, hh.below⟩
    · have hk64 : k < 64 := by
        refine Nat.lt_of_not_le fun h => ?_
        rw [show 64 - k = 0 by omega] at hmk
        omega
      have hm2 : m % 2 < 256 := by omega
      refine wc_seq ?_
      refine wc_seq ?_
      refine wc_region ?_
      refine s_move (ev_int rfl) (by decide) ?_
      first | refine s_gtr_t rfl rfl (by omega) (by decide) ?_ | refine s_gtr_f rfl rfl (by omega) (by decide) ?_ | refine s_gtr_v rfl rfl (by decide) ?_
      refine wl_end ?_
      refine wc_cond_t rfl ?_
      refine wc_skip ?_
      refine k_then ?_
      refine wc_seq ?_
      refine wc_block ?_
      refine wc_region ?_
      refine s_move (ev_sl rfl) (by decide) ?_
      refine s_move (ev_int rfl) (by decide) ?_
      refine s_remu (b := 2) rfl rfl (by omega) (by decide) ?_
      first | refine s_convu_lt UIs.out UIs.out rfl (by first | assumption | omega) (by decide) ?_ | refine s_convu UIs.out UIs.out rfl (by decide) ?_
      refine wl_buildSlice hh (cs := [_]) UIs.out TIs.out (evp_cons (ev_int rfl) evp_nil) rfl rfl (by decide) (by decide) (by decide) rfl (by decide) ?_
      intro b12 w12 hh
      refine wl_append hh (i := 1) rfl rfl rfl (hh.sl_row (i := 0) rfl) UIs.out TIs.out rfl (by decide) (by first | rfl | exact oneCells_u8n _ | exact oneCells_u64s _ | exact oneCells_i64s _ | exact recs_oneCells NR.one _) (by omega) (by omega) (by decide) ?_
      intro A13 c13 w13 hh
      simp only [List.set_cons_zero, List.set_cons_succ] at hh
      replace hh := hh.sub (List.sublist_cons_self _ _)
      refine s_assign (ev_sl rfl) (by decide) ?_
      refine wl_nil ?_
      refine b_norm ?_
      refine k_then ?_
      refine wc_region ?_
      refine s_move (ev_int rfl) (by decide) ?_
      refine s_quou (b := 2) rfl rfl (by omega) (by first | assumption | omega) (by decide) ?_
      refine s_assign (ev_int rfl) (by decide) ?_
      refine wl_nil ?_
      refine k_then ?_
      -- at ('round',)
      have e1 : u8n (digK 2 k n) ++ [Value.int .u8 ((m % 2 : Nat) : Int)] = u8n (digK 2 (k + 1) n) := by
        rw [hmn, digK_snoc, u8n_append]; rfl
      rw [e1] at hh
      refine ⟨⟨k + 1, m / 2, A13, c13, rfl, by omega, by omega, ?_, rfl, ?_, hh⟩, by show (((m / 2 : Nat) : Int)).toNat < ((m : Int)).toNat; omega, ?_⟩
      · rw [show 64 - k = (64 - (k + 1)) + 1 by omega, Nat.pow_succ] at hmk
        omega
      · rw [hmn, Nat.div_div_eq_div_mul, Nat.pow_succ]
      · (repeat (first | exact agree_mask _ _ _ | refine agree_upd rfl ?_ | refine agree_mask2 rfl ?_))
theorem bits_len (a : ByteArray) : (digs 2 (bN a)).length ≤ 8 * a.size := bN_blen a
theorem can_2 (n : Nat) : Dg 2 (digs 2 n) := (can_digs (by omega) n).1
theorem dig_2 (n : Nat) : dig 2 (digs 2 n) = n := dig_digs (by omega) n
theorem rCmp_calls (a b : ByteArray) (w : World) (ha : a.size ≤ 1000000000) (hb : b.size ≤ 1000000000) :
    Calls Tryz.prog 175 #[.string a, .string b] w fun e w' => e = .returned (.int .i64 (cmpN (bN a) (bN b))) ∧ Below w.heap.size w w' := by
  have hh := Hp.start w
  have h1 := bits_len a
  have h2 := bits_len b
  refine calls_vc (N := 10) (l := [.string a, .string b]) Tryz.func175 rfl rfl (by simp) ?_
  refine wc_seq ?_
  refine wc_region ?_
  refine s_assign (ev_int rfl) (by decide) ?_
  refine wl_end ?_
  refine wc_seq ?_
  refine wc_region ?_
  refine s_move (ev_str rfl) (by decide) ?_
  -- at some 6 := Op.call { callee := Callee.value (Operand.func 157), args := #[Operand.tmp 5], argTypes :=
  refine s_callf (rbits_calls a _ ha) FnIs.out rfl (by decide) ?_
  rintro e_ w6 ⟨A6, c6, rfl, hown_, hb_⟩
  refine ⟨_, rfl, ?_⟩
  replace hh := hh.push_new (x := .row _ _ _ _ _ _) hb_ hown_
  refine s_move (ev_str rfl) (by decide) ?_
  -- at some 8 := Op.call { callee := Callee.value (Operand.func 157), args := #[Operand.tmp 7], argTypes :=
  refine s_callf (rbits_calls b _ hb) FnIs.out rfl (by decide) ?_
  rintro e_ w8 ⟨A8, c8, rfl, hown_, hb_⟩
  refine ⟨_, rfl, ?_⟩
  replace hh := hh.push_new (x := .row _ _ _ _ _ _) hb_ hown_
  -- at some 9 := Op.call { callee := Callee.value (Operand.func 178), args := #[Operand.tmp 6, Operand.tmp 
  refine s_callf (rcompare_calls _ _ _ _ _ _ (digs 2 (bN a)) (digs 2 (bN b)) _ (hh.sl_row (i := 1) rfl) (hh.sl_row (i := 0) rfl) (can_2 _) (can_2 _) (by omega) (by omega)) FnIs.out rfl (by decide) ?_
  rintro e_ w9 ⟨rfl, hb_⟩
  refine ⟨_, rfl, ?_⟩
  replace hh := hh.ext hb_
  rw [dig_2, dig_2]
  refine s_assign (ev_int rfl) (by decide) ?_
  refine wl_end ?_
  refine wc_ret ?_
  -- at ('end', 'ret')
  refine ret1 (by first | exact .inr rfl | exact .inl rfl) rfl (v_int rfl) ?_
  exact ⟨rfl, hh.below⟩
theorem rLen_calls (a : ByteArray) (w : World) (ha : a.size ≤ 1000000000) :
    Calls Tryz.prog 172 #[.string a] w fun e w' => e = .returned (.int .i64 (blen (bN a))) ∧ Below w.heap.size w w' := by
  have hh := Hp.start w
  refine calls_vc (N := 6) (l := [.string a]) Tryz.func172 rfl rfl (by simp) ?_
  refine wc_seq ?_
  refine wc_region ?_
  refine s_assign (ev_int rfl) (by decide) ?_
  refine wl_end ?_
  refine wc_seq ?_
  refine wc_region ?_
  refine s_move (ev_str rfl) (by decide) ?_
  -- at some 4 := Op.call { callee := Callee.value (Operand.func 157), args := #[Operand.tmp 3], argTypes :=
  refine s_callf (rbits_calls a _ ha) FnIs.out rfl (by decide) ?_
  rintro e_ w4 ⟨A4, c4, rfl, hown_, hb_⟩
  refine ⟨_, rfl, ?_⟩
  replace hh := hh.push_new (x := .row _ _ _ _ _ _) hb_ hown_
  refine s_len_sl UIs.out rfl (by decide) ?_
  refine s_assign (ev_int rfl) (by decide) ?_
  refine wl_end ?_
  refine wc_ret ?_
  -- at ('end', 'ret')
  refine ret1 (by first | exact .inr rfl | exact .inl rfl) rfl (v_int rfl) ?_
  exact ⟨rfl, hh.below⟩
theorem rSub_calls (a b : ByteArray) (w : World) (ha : a.size ≤ 1000000000) (hb : b.size ≤ 1000000000) :
    Calls Tryz.prog 155 #[.string a, .string b] w fun e w' => e = .returned (.tuple #[.string (sN (bN a - bN b)), .bool (decide (bN b ≤ bN a))]) ∧ Below w.heap.size w w' := by
  have hh := Hp.start w
  have h1 := bits_len a
  have h2 := bits_len b
  by_cases hlt : bN a < bN b
  · refine calls_vc (N := 16) (l := [.string a, .string b]) Tryz.func155 rfl rfl (by simp) ?_
    refine wc_seq ?_
    refine wc_region ?_
    refine s_assign (ev_str rfl) (by decide) ?_
    refine s_assign (ev_bool rfl) (by decide) ?_
    refine wl_end ?_
    refine wc_seq ?_
    refine wc_seq ?_
    refine wc_region ?_
    refine s_move (ev_str rfl) (by decide) ?_
    refine s_move (ev_str rfl) (by decide) ?_
    -- at some 8 := Op.call { callee := Callee.value (Operand.func 175), args := #[Operand.tmp 6, Operand.tmp 
    refine s_callf (rCmp_calls a b _ ha hb) FnIs.out rfl (by decide) ?_
    rintro e_ w8 ⟨rfl, hb_⟩
    refine ⟨_, rfl, ?_⟩
    replace hh := hh.ext hb_
    rw [cmpN_lt hlt]
    first | refine s_lss_t rfl rfl (by omega) (by decide) ?_ | refine s_lss_f rfl rfl (by omega) (by decide) ?_ | refine s_lss_v rfl rfl (by decide) ?_
    refine wl_end ?_
    refine wc_cond_t rfl ?_
    refine wc_seq ?_
    refine wc_region ?_
    refine s_assign (ev_str rfl) (by decide) ?_
    refine s_assign (ev_bool rfl) (by decide) ?_
    refine wl_end ?_
    refine wc_ret ?_
    refine k_ret ?_
    -- at ('end', 'ret')
    refine ret2 (by first | exact .inr rfl | exact .inl rfl) rfl (v_str rfl) (v_bool rfl) ?_
    rw [Nat.sub_eq_zero_of_le (by omega), decide_eq_false (by omega), sN_zero]
    exact ⟨rfl, hh.below⟩
  · have hc : ¬ cmpN (bN a) (bN b) < 0 := by unfold cmpN; split <;> (try split) <;> omega
    have hbl : bN a - bN b < 2 ^ (digs 2 (bN a)).length := Nat.lt_of_le_of_lt (Nat.sub_le _ _) (lt_blen (bN a))
    refine calls_vc (N := 16) (l := [.string a, .string b]) Tryz.func155 rfl rfl (by simp) ?_
    refine wc_seq ?_
    refine wc_region ?_
    refine s_assign (ev_str rfl) (by decide) ?_
    refine s_assign (ev_bool rfl) (by decide) ?_
    refine wl_end ?_
    refine wc_seq ?_
    refine wc_seq ?_
    refine wc_region ?_
    refine s_move (ev_str rfl) (by decide) ?_
    refine s_move (ev_str rfl) (by decide) ?_
    -- at some 8 := Op.call { callee := Callee.value (Operand.func 175), args := #[Operand.tmp 6, Operand.tmp 
    refine s_callf (rCmp_calls a b _ ha hb) FnIs.out rfl (by decide) ?_
    rintro e_ w8 ⟨rfl, hb_⟩
    refine ⟨_, rfl, ?_⟩
    replace hh := hh.ext hb_
    first | refine s_lss_t rfl rfl (by omega) (by decide) ?_ | refine s_lss_f rfl rfl (by omega) (by decide) ?_ | refine s_lss_v rfl rfl (by decide) ?_
    refine wl_end ?_
    refine wc_cond_f rfl ?_
    refine wc_skip ?_
    refine k_then ?_
    refine wc_seq ?_
    refine wc_region ?_
    refine s_move (ev_str rfl) (by decide) ?_
    -- at some 11 := Op.call { callee := Callee.value (Operand.func 157), args := #[Operand.tmp 10], argTypes :
    refine s_callf (rbits_calls a _ ha) FnIs.out rfl (by decide) ?_
    rintro e_ w11 ⟨A11, c11, rfl, hown_, hb_⟩
    refine ⟨_, rfl, ?_⟩
    replace hh := hh.push_new (x := .row _ _ _ _ _ _) hb_ hown_
    refine s_move (ev_str rfl) (by decide) ?_
    -- at some 13 := Op.call { callee := Callee.value (Operand.func 157), args := #[Operand.tmp 12], argTypes :
    refine s_callf (rbits_calls b _ hb) FnIs.out rfl (by decide) ?_
    rintro e_ w13 ⟨A13, c13, rfl, hown_, hb_⟩
    refine ⟨_, rfl, ?_⟩
    replace hh := hh.push_new (x := .row _ _ _ _ _ _) hb_ hown_
    -- at some 14 := Op.call { callee := Callee.value (Operand.func 176), args := #[Operand.tmp 11, Operand.tmp
    refine s_callf (rminus_calls _ _ _ _ _ _ (digs 2 (bN a)) (digs 2 (bN b)) _ (hh.sl_row (i := 1) rfl) (hh.sl_row (i := 0) rfl) (can_2 _) (can_2 _) (by omega) (by omega) (by rw [dig_2, dig_2]; omega)) FnIs.out rfl (by decide) ?_
    rintro e_ w_ ⟨b14, rfl, hown_, hb_⟩
    refine ⟨_, rfl, ?_⟩
    replace hh := hh.push_new (x := .row _ _ _ _ _ _) hb_ hown_
    rw [dig_2, dig_2] at hh
    -- at some 15 := Op.call { callee := Callee.value (Operand.func 143), args := #[Operand.tmp 14], argTypes :
    refine s_callf (rtext_calls _ _ _ (digK 2 (digs 2 (bN a)).length (bN a - bN b)) _ (hh.sl_row (i := 0) rfl) (dg_digK (by omega) _ _) (Nat.le_refl _) (by omega)) FnIs.out rfl (by decide) ?_
    rintro e_ w15 ⟨rfl, hb_⟩
    refine ⟨_, rfl, ?_⟩
    replace hh := hh.ext hb_
    rw [dig_digK_lt hbl]
    refine s_assign (ev_str rfl) (by decide) ?_
    refine s_assign (ev_bool rfl) (by decide) ?_
    refine wl_end ?_
    refine wc_ret ?_
    -- at ('end', 'ret')
    refine ret2 (by first | exact .inr rfl | exact .inl rfl) rfl (v_str rfl) (v_bool rfl) ?_
    rw [decide_eq_true (by omega)]
    exact ⟨rfl, hh.below⟩
theorem rShl_calls (a : ByteArray) (m : Nat) (w : World) (ha : a.size ≤ 1000000000) (hm : m ≤ 10000000000) :
    Calls Tryz.prog 156 #[.string a, .int .i64 (m : Int)] w fun e w' => e = .returned (.string (sN (bN a * 2 ^ m))) ∧ Below w.heap.size w w' := by
  have hh := Hp.start w
  have h1 := bits_len a
  have e1 : (if (0 : Int) > (m : Int) then 0 else (m : Int)) = m := if_neg (by omega)
  have hbd : bN a * 2 ^ m < 2 ^ (max 0 ((digs 2 (bN a)).length + m) + 1) := by
    refine Nat.lt_of_lt_of_le (lt_blen _) (Nat.pow_le_pow_right (by omega) ?_)
    have := blen_mul_pow (bN a) m
    show blen _ ≤ max 0 (blen _ + m) + 1
    omega
  refine calls_vc (N := 11) (l := [.string a, .int .i64 (m : Int)]) Tryz.func156 rfl rfl (by simp) ?_
  refine wc_seq ?_
  refine wc_region ?_
  refine s_assign (ev_str rfl) (by decide) ?_
  refine wl_end ?_
  refine wc_seq ?_
  refine wc_region ?_
  refine s_move (ev_str rfl) (by decide) ?_
  -- at some 6 := Op.call { callee := Callee.value (Operand.func 157), args := #[Operand.tmp 5], argTypes :=
  refine s_callf (rbits_calls a _ ha) FnIs.out rfl (by decide) ?_
  rintro e_ w6 ⟨A6, c6, rfl, hown_, hb_⟩
  refine ⟨_, rfl, ?_⟩
  replace hh := hh.push_new (x := .row _ _ _ _ _ _) hb_ hown_
  refine s_move (ev_int rfl) (by decide) ?_
  refine s_max rfl rfl (by decide) ?_
  -- at some 9 := Op.call { callee := Callee.value (Operand.func 174), args := #[Operand.const (Value.slice 
  rw [e1]
  refine s_callf (rplus_calls none _ 0 0 _ _ m [] (digs 2 (bN a)) _ (Sl.nil _ _ _) (hh.sl_row (i := 0) rfl) Dg.nil (can_2 _) (by omega) (by omega) (by omega)) FnIs.out rfl (by decide) ?_
  rintro e_ w_ ⟨b9, rfl, hown_, hb_⟩
  refine ⟨_, rfl, ?_⟩
  replace hh := hh.push_new (x := .row _ _ _ _ _ _) hb_ hown_
  rw [dig_2, dig, Nat.zero_add] at hh
  -- at some 10 := Op.call { callee := Callee.value (Operand.func 143), args := #[Operand.tmp 9], argTypes :=
  refine s_callf (rtext_calls _ _ _ (digK 2 (max 0 ((digs 2 (bN a)).length + m) + 1) (bN a * 2 ^ m)) _ (hh.sl_row (i := 0) rfl) (dg_digK (by omega) _ _) (Nat.le_refl _) (by omega)) FnIs.out rfl (by decide) ?_
  rintro e_ w10 ⟨rfl, hb_⟩
  refine ⟨_, rfl, ?_⟩
  replace hh := hh.ext hb_
  rw [dig_digK_lt hbd]
  refine s_assign (ev_str rfl) (by decide) ?_
  refine wl_end ?_
  refine wc_ret ?_
  -- at ('end', 'ret')
  refine ret1 (by first | exact .inr rfl | exact .inl rfl) rfl (v_str rfl) ?_
  exact ⟨rfl, hh.below⟩
end Go.Proofs.YthmmofllajkejaaGreatDoor
